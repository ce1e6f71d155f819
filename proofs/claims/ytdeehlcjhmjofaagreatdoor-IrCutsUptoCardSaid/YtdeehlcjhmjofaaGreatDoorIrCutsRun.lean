/-
  IrCuts answers true at any two codes and any cut. Conditions: the codes are of their kinds, and not too long.
-/
import Derived.Test.YtdeehlcjhmjofaaGreatDoorIrBackRun
namespace AmT
open Go Am
set_option maxRecDepth 100000
set_option maxHeartbeats 8000000
set_option linter.unusedSimpArgs false
set_option linter.unusedVariables false
variable {O : CallF}

theorem irCuts_ok (hO : OffL14 O) {Z : Nat → Prop} {h0 : Heap} {c d : List V} {f g : FastA} {n : Int} (hf : FastR Z h0 c f) (ht : TyF f) (hlen : (wFast f).length ≤ 4000000000) (hg : FastR Z h0 d g) (ht2 : TyF g) (hlen2 : (wFast g).length ≤ 4000000000) :
    WPc tab.get O 9 [.agg c, .agg d, .int .i64 n] h0 (fun v h' => v = .bool true) := by
  refine w_fn' (hO.l2 _ _) rfl rfl (by simp only [c9, initV, nth] <;> rfl) ?_
  have hsf := hf.shape
  have hsg := hg.shape
  refine w_seq (w_reg (w_box rfl hsf.1 hsf.2 fun iF h1 hF hiF hE1 => ?_))
  refine w_box rfl hsg.1 hsg.2 fun iG h2 hG hiG hE2 => ?_
  replace hF : Own h2 iF c := hF.ext0 hE2
  replace hG : Own h2 iG d := hG
  replace hf := hf.ext0 (hE1.trans hE2)
  replace hg := hg.ext0 (hE1.trans hE2)
  have hc5 : List.take 5 c = c := List.take_of_length_le (by omega)
  have hd5 : List.take 5 d = d := List.take_of_length_le (by omega)
  clear hE1 hE2
  repeat' (first | refine w_seq ?_ | refine w_reg ?_ | refine w_end (by simp only [outsV, nth, setV, List.take_succ_cons, List.take_zero, List.length_cons, List.length_nil, Nat.zero_add, Nat.reduceAdd] <;> rfl) ?_ | refine w_opk rfl rfl ?_)
  refine w_loadA rfl (hF.at hsf.1) (by rw [hsf.1]; rfl) ?_
  rw [hc5]
  refine w_call rfl ((fgreat_ok hO.toFK hf hlen).mono fun _ h3 ⟨⟨r, e⟩, hE⟩ => ?_)
  subst e
  replace hF := hF.ext0 hE
  replace hG := hG.ext0 hE
  replace hf := hf.ext0 hE
  replace hg := hg.ext0 hE
  clear hE
  cases r with
  | true =>
    repeat' (first | refine w_seq ?_ | refine w_reg ?_ | refine w_end (by simp only [outsV, nth, setV, List.take_succ_cons, List.take_zero, List.length_cons, List.length_nil, Nat.zero_add, Nat.reduceAdd] <;> rfl) ?_ | refine w_off rfl ?_ | refine w_opk rfl rfl ?_ | refine w_cond_t rfl ?_)
    refine w_aw14 hO ?_
    repeat' (first | refine w_end (by simp only [outsV, nth, setV, List.take_succ_cons, List.take_zero, List.length_cons, List.length_nil, Nat.zero_add, Nat.reduceAdd] <;> rfl) ?_ | refine w_opk rfl rfl ?_ | refine w_ret ?_ | refine w_rt rfl ?_)
    rfl
  | false =>
  repeat' (first | refine w_on rfl ?_ | refine w_opk rfl rfl ?_)
  refine w_loadA rfl (hG.at hsg.1) (by rw [hsg.1]; rfl) ?_
  rw [hd5]
  repeat' (first | refine w_on rfl ?_)
  refine w_call rfl ((fgreat_ok hO.toFK hg hlen2).mono fun _ h4 ⟨⟨r, e⟩, hE⟩ => ?_)
  subst e
  replace hF := hF.ext0 hE
  replace hG := hG.ext0 hE
  replace hf := hf.ext0 hE
  replace hg := hg.ext0 hE
  clear hE
  cases r with
  | true =>
    repeat' (first | refine w_seq ?_ | refine w_reg ?_ | refine w_end (by simp only [outsV, nth, setV, List.take_succ_cons, List.take_zero, List.length_cons, List.length_nil, Nat.zero_add, Nat.reduceAdd] <;> rfl) ?_ | refine w_opk rfl rfl ?_ | refine w_cond_t rfl ?_)
    refine w_aw14 hO ?_
    repeat' (first | refine w_end (by simp only [outsV, nth, setV, List.take_succ_cons, List.take_zero, List.length_cons, List.length_nil, Nat.zero_add, Nat.reduceAdd] <;> rfl) ?_ | refine w_opk rfl rfl ?_ | refine w_ret ?_ | refine w_rt rfl ?_)
    rfl
  | false =>
  repeat' (first | refine w_seq ?_ | refine w_reg ?_ | refine w_end (by simp only [outsV, nth, setV, List.take_succ_cons, List.take_zero, List.length_cons, List.length_nil, Nat.zero_add, Nat.reduceAdd] <;> rfl) ?_ | refine w_opk rfl rfl ?_ | refine w_cond_f rfl ?_ | refine w_skip ?_)
  refine w_loadA rfl (hF.at hsf.1) (by rw [hsf.1]; rfl) ?_
  rw [hc5]
  refine w_call rfl ((bytes_ok hO.toWr hf ht hlen).mono fun _ h5 ⟨hE, b1, e1, ev, k1, k2⟩ => ?_)
  subst ev
  replace hF := hF.ext0 hE
  replace hG := hG.ext0 hE
  replace hf := hf.ext0 hE
  replace hg := hg.ext0 hE
  clear hE
  repeat' (first | refine w_seq ?_ | refine w_reg ?_ | refine w_end (by simp only [outsV, nth, setV, List.take_succ_cons, List.take_zero, List.length_cons, List.length_nil, Nat.zero_add, Nat.reduceAdd] <;> rfl) ?_ | refine w_opk rfl rfl ?_)
  refine w_loadA rfl (hG.at hsg.1) (by rw [hsg.1]; rfl) ?_
  rw [hd5]
  refine w_call rfl ((bytes_ok hO.toWr hg ht2 hlen2).mono fun _ h6 ⟨hE, b2, e2, ev, k3, k4⟩ => ?_)
  subst ev
  replace hF := hF.ext0 hE
  replace hG := hG.ext0 hE
  replace hf := hf.ext0 hE
  replace hg := hg.ext0 hE
  cases hbb : bFast f with
  | true =>
    obtain ⟨z1, z2⟩ := k2 hbb
    subst z1 z2
    repeat' (first | refine w_seq ?_ | refine w_reg ?_ | refine w_end (by simp only [outsV, nth, setV, List.take_succ_cons, List.take_zero, List.length_cons, List.length_nil, Nat.zero_add, Nat.reduceAdd] <;> rfl) ?_ | refine w_on rfl ?_ | refine w_opk rfl rfl ?_ | refine w_cond_t rfl ?_)
    refine w_aw14 hO ?_
    repeat' (first | refine w_end (by simp only [outsV, nth, setV, List.take_succ_cons, List.take_zero, List.length_cons, List.length_nil, Nat.zero_add, Nat.reduceAdd] <;> rfl) ?_ | refine w_opk rfl rfl ?_ | refine w_ret ?_ | refine w_rt rfl ?_)
    rfl
  | false =>
  obtain ⟨z1, o1⟩ := k1 hbb
  subst z1
  replace o1 := o1.ext0 hE
  clear k1 k2
  have hok := (bFast_iff f ht).1 hbb
  have hw := wFast_eq hok
  rw [hw] at o1
  have hby := cFast.byt f hok
  rw [hw] at hlen
  have hl1 : 1 ≤ (cFast.enc f).length := by
    rw [← hw]; unfold wFast; have := encU_ge 9 f.2.2.1.length; simp only [List.length_append]; omega
  have hml : ((cFast.enc f).map byteC).length = (cFast.enc f).length := List.length_map ..
  cases hbb2 : bFast g with
  | true =>
    obtain ⟨z1, z2⟩ := k4 hbb2
    subst z1 z2
    repeat' (first | refine w_seq ?_ | refine w_reg ?_ | refine w_end (by simp only [outsV, nth, setV, List.take_succ_cons, List.take_zero, List.length_cons, List.length_nil, Nat.zero_add, Nat.reduceAdd] <;> rfl) ?_ | refine w_off rfl ?_ | refine w_opk rfl rfl ?_ | refine w_cond_f rfl ?_ | refine w_skip ?_)
    refine w_len rfl o1.rs ?_
    rw [hml]
    refine w_callA [.int .i64 n, .int .i64 (.ofNat (cFast.enc f).length)] rfl ((pickN_ok hO.toFK (L := (cFast.enc f).length) (by omega) (by omega)).mono fun _ ha ⟨⟨k, e, hk⟩, e2⟩ => ?_)
    subst e e2
    repeat' (first | refine w_seq ?_ | refine w_reg ?_ | refine w_end (by simp only [outsV, nth, setV, List.take_succ_cons, List.take_zero, List.length_cons, List.length_nil, Nat.zero_add, Nat.reduceAdd] <;> rfl) ?_ | refine w_opk rfl rfl ?_)
    refine w_slHi rfl rfl o1 (by rw [hml]; omega) fun v1 p1 _ => ?_
    rw [← List.map_take] at p1
    refine w_call rfl ((read_ok hO.toRd (bs := (cFast.enc f).take k) ⟨p1.rs, fun x hx => hby x (List.mem_of_mem_take hx), by rw [List.length_take]; omega⟩).mono fun _ hb ⟨hEb, c1, e1, ev, _, g1⟩ => ?_)
    subst ev
    obtain ⟨z1, z2⟩ := g1 fun x => cFast.cut hok hk
    subst z1 z2
    replace o1 := o1.ext0 hEb
    clear hEb p1
    repeat' (first | refine w_opk rfl rfl ?_)
    refine w_alloc fun iv hc hV hiV hEc => ?_
    refine w_store rfl rfl hV rfl rfl (by decide) (by decide) fun hd hV2 yv zv => ?_
    replace o1 := (o1.ext0 hEc).ext yv (fun j hj e => by simp at e; have := o1.rs.lt j hj; omega)
    clear hV hV2 yv hEc
    repeat' (first | refine w_seq ?_ | refine w_reg ?_ | refine w_end (by simp only [outsV, nth, setV, List.take_succ_cons, List.take_zero, List.length_cons, List.length_nil, Nat.zero_add, Nat.reduceAdd] <;> rfl) ?_ | refine w_opk rfl rfl ?_)
    refine w_bslice (ps := []) (cs := []) [] rfl rfl rfl rfl (by simp) fun w0 he q0 f0 => ?_
    replace o1 := o1.ext0 f0.ext0
    refine w_opq rfl rfl ?_
    refine w_app rfl rfl q0 o1.rs (by simp; omega) fun w1 hf1 q1 f1 => ?_
    refine w_push rfl rfl rfl rfl (fun _ => rfl) q1 (by simp; omega) fun a w2 hg1 q2 f2 => ?_
    have hq : ([] ++ (cFast.enc f).map byteC) ++ [(V.int .u8 (.ofNat 0)).cells] = (cFast.enc f ++ [0]).map byteC := by
      rw [List.map_append]; rfl
    replace q2 : Ow hg1 1 w2 ((cFast.enc f ++ [0]).map byteC) := by rw [← hq]; exact q2
    refine w_call rfl ((read_ok hO.toRd (bs := cFast.enc f ++ [0]) ⟨q2.rs, hby.append (fun x hx => by simp at hx; omega), by simp; omega⟩).mono fun _ hi ⟨hEi, c2, e2, ev, _, g2⟩ => ?_)
    subst ev
    obtain ⟨z1, z2⟩ := g2 fun x => cFast.more hok
    subst z1 z2
    repeat' (first | refine w_opk rfl rfl ?_)
    refine w_alloc fun iw hj hW hiW hEj => ?_
    refine w_store rfl rfl hW rfl rfl (by decide) (by decide) fun hl hW2 yw zw => ?_
    repeat' (first | refine w_seq ?_ | refine w_reg ?_ | refine w_end (by simp only [outsV, nth, setV, List.take_succ_cons, List.take_zero, List.length_cons, List.length_nil, Nat.zero_add, Nat.reduceAdd] <;> rfl) ?_ | refine w_on rfl ?_ | refine w_opk rfl rfl ?_)
    refine w_aw14 hO ?_
    repeat' (first | refine w_end (by simp only [outsV, nth, setV, List.take_succ_cons, List.take_zero, List.length_cons, List.length_nil, Nat.zero_add, Nat.reduceAdd] <;> rfl) ?_ | refine w_opk rfl rfl ?_ | refine w_ret ?_ | refine w_rt rfl ?_)
    rfl
  | false =>
    obtain ⟨z1, o2⟩ := k3 hbb2
    subst z1
    have hok2 := (bFast_iff g ht2).1 hbb2
    have hw2 := wFast_eq hok2
    rw [hw2] at o2
    have hby2 := cFast.byt g hok2
    repeat' (first | refine w_seq ?_ | refine w_reg ?_ | refine w_end (by simp only [outsV, nth, setV, List.take_succ_cons, List.take_zero, List.length_cons, List.length_nil, Nat.zero_add, Nat.reduceAdd] <;> rfl) ?_ | refine w_on rfl ?_ | refine w_opk rfl rfl ?_ | refine w_cond_f rfl ?_ | refine w_skip ?_)
    refine w_loadA rfl (hF.at hsf.1) (by rw [hsf.1]; rfl) ?_
    repeat' (first | refine w_on rfl ?_)
    refine w_loadA rfl (hG.at hsg.1) (by rw [hsg.1]; rfl) ?_
    repeat' (first | refine w_on rfl ?_)
    refine w_call rfl ((bytesEq_ok hO.toFK o1.rs o2.rs hby hby2).mono fun _ h7 ⟨⟨r, e, er⟩, e2⟩ => ?_)
    subst e e2
    repeat' (first | refine w_on rfl ?_)
    refine w_chkA rfl rfl (hG.at hsg.1) (by omega) (V.beqL_refl _) ?_
    repeat' (first | refine w_on rfl ?_)
    refine w_chkA rfl rfl (hF.at hsf.1) (by omega) (V.beqL_refl _) ?_
    repeat' (first | refine w_on rfl ?_)
    refine w_callA [.agg c, .agg d] (by rw [hc5, hd5]; rfl) ((fsame_ok hO.toFS hf hg (by rw [hw]; exact hlen)).mono fun _ h8 ⟨⟨s, e, es⟩, hE8⟩ => ?_)
    subst e
    have hrs : r = s := by
      have := cFast.inj hok hok2
      cases r <;> cases s <;> simp_all
    subst hrs
    replace o1 := o1.ext0 hE8
    clear hE8
    cases r <;> (
      repeat' (first | refine w_seq ?_ | refine w_reg ?_ | refine w_end (by simp only [outsV, nth, setV, List.take_succ_cons, List.take_zero, List.length_cons, List.length_nil, Nat.zero_add, Nat.reduceAdd] <;> rfl) ?_ | refine w_on rfl ?_ | refine w_opk rfl rfl ?_ | refine w_cond_f rfl ?_ | refine w_skip ?_)
      refine w_len rfl o1.rs ?_
      rw [hml]
      refine w_callA [.int .i64 n, .int .i64 (.ofNat (cFast.enc f).length)] rfl ((pickN_ok hO.toFK (L := (cFast.enc f).length) (by omega) (by omega)).mono fun _ ha ⟨⟨k, e, hk⟩, e2⟩ => ?_)
      subst e e2
      repeat' (first | refine w_seq ?_ | refine w_reg ?_ | refine w_end (by simp only [outsV, nth, setV, List.take_succ_cons, List.take_zero, List.length_cons, List.length_nil, Nat.zero_add, Nat.reduceAdd] <;> rfl) ?_ | refine w_opk rfl rfl ?_)
      refine w_slHi rfl rfl o1 (by rw [hml]; omega) fun v1 p1 _ => ?_
      rw [← List.map_take] at p1
      refine w_call rfl ((read_ok hO.toRd (bs := (cFast.enc f).take k) ⟨p1.rs, fun x hx => hby x (List.mem_of_mem_take hx), by rw [List.length_take]; omega⟩).mono fun _ hb ⟨hEb, c1, e1, ev, _, g1⟩ => ?_)
      subst ev
      obtain ⟨z1, z2⟩ := g1 fun x => cFast.cut hok hk
      subst z1 z2
      replace o1 := o1.ext0 hEb
      clear hEb p1
      repeat' (first | refine w_opk rfl rfl ?_)
      refine w_alloc fun iv hc hV hiV hEc => ?_
      refine w_store rfl rfl hV rfl rfl (by decide) (by decide) fun hd hV2 yv zv => ?_
      replace o1 := (o1.ext0 hEc).ext yv (fun j hj e => by simp at e; have := o1.rs.lt j hj; omega)
      clear hV hV2 yv hEc
      repeat' (first | refine w_seq ?_ | refine w_reg ?_ | refine w_end (by simp only [outsV, nth, setV, List.take_succ_cons, List.take_zero, List.length_cons, List.length_nil, Nat.zero_add, Nat.reduceAdd] <;> rfl) ?_ | refine w_opk rfl rfl ?_)
      refine w_bslice (ps := []) (cs := []) [] rfl rfl rfl rfl (by simp) fun w0 he q0 f0 => ?_
      replace o1 := o1.ext0 f0.ext0
      refine w_opq rfl rfl ?_
      refine w_app rfl rfl q0 o1.rs (by simp; omega) fun w1 hf1 q1 f1 => ?_
      refine w_push rfl rfl rfl rfl (fun _ => rfl) q1 (by simp; omega) fun a w2 hg1 q2 f2 => ?_
      have hq : ([] ++ (cFast.enc f).map byteC) ++ [(V.int .u8 (.ofNat 0)).cells] = (cFast.enc f ++ [0]).map byteC := by
        rw [List.map_append]; rfl
      replace q2 : Ow hg1 1 w2 ((cFast.enc f ++ [0]).map byteC) := by rw [← hq]; exact q2
      refine w_call rfl ((read_ok hO.toRd (bs := cFast.enc f ++ [0]) ⟨q2.rs, hby.append (fun x hx => by simp at hx; omega), by simp; omega⟩).mono fun _ hi ⟨hEi, c2, e2, ev, _, g2⟩ => ?_)
      subst ev
      obtain ⟨z1, z2⟩ := g2 fun x => cFast.more hok
      subst z1 z2
      repeat' (first | refine w_opk rfl rfl ?_)
      refine w_alloc fun iw hj hW hiW hEj => ?_
      refine w_store rfl rfl hW rfl rfl (by decide) (by decide) fun hl hW2 yw zw => ?_
      repeat' (first | refine w_seq ?_ | refine w_reg ?_ | refine w_end (by simp only [outsV, nth, setV, List.take_succ_cons, List.take_zero, List.length_cons, List.length_nil, Nat.zero_add, Nat.reduceAdd] <;> rfl) ?_ | refine w_on rfl ?_ | refine w_opk rfl rfl ?_)
      refine w_aw14 hO ?_
      repeat' (first | refine w_end (by simp only [outsV, nth, setV, List.take_succ_cons, List.take_zero, List.length_cons, List.length_nil, Nat.zero_add, Nat.reduceAdd] <;> rfl) ?_ | refine w_opk rfl rfl ?_ | refine w_ret ?_ | refine w_rt rfl ?_)
      rfl)
end AmT
