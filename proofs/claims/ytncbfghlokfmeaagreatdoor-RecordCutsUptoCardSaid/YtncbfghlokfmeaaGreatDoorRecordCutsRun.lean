/-
  RecordCuts answers true at any two records and any cut. Conditions: the records' numbers are of their kinds; they are not too long.
-/
import Derived.Test.YtncbfghlokfmeaaGreatDoorARead
import Derived.Test.YtncbfghlokfmeaaGreatDoorABytes
import Derived.Test.YtncbfghlokfmeaaGreatDoorRSame
import Derived.Test.YtncbfghlokfmeaaGreatDoorRFew
import Derived.Test.YtncbfghlokfmeaaGreatDoorBEq
namespace AmT
open Go Am
set_option maxRecDepth 100000
set_option maxHeartbeats 8000000
set_option linter.unusedSimpArgs false
set_option linter.unusedVariables false
variable {O : CallF}

structure OffL19 (O : CallF) : Prop where
  toAR : OffAR O
  toAW : OffAW O
  toRS : OffRS O
  toRF : OffRF O
  eq : ∀ a h, O 23 a h = none
  pk : ∀ a h, O 25 a h = none
  aw : ∀ h, O 21 [] h = some (.bool true, h)
  law : ∀ a h, O 8 a h = none

theorem w_aw19 {O : CallF} (hO : OffL19 O) {vs ls : List V} {h : Heap} {Q : List V → Heap → Prop} {os : List AOp} (k1 : WPo tab.get O os (.bool true :: ls) vs h Q) : WPo tab.get O (⟨none, .call 21 []⟩ :: os) ls vs h Q :=
  w_call rfl (w_known (hO.aw h) k1)

theorem pick19_ok (hO : ∀ a h, O 25 a h = none) {n : Int} {L : Nat} (hL : 0 < L) (hL2 : L < 9223372036854775808) {h0 : Heap} : WPc tab.get O 25 [.int .i64 n, .int .i64 (.ofNat L)] h0 (fun v h' => (∃ k : Nat, v = .int .i64 (.ofNat k) ∧ k < L) ∧ h' = h0) := by
  refine w_fn' (hO _ _) rfl rfl (by simp only [c25, initV, nth] <;> rfl) ?_
  have hb := tmod_bound n hL
  have e0 : Int.ofNat L = (L : Int) := rfl
  repeat' (first | refine w_seq ?_ | refine w_reg ?_ | refine w_e ?_ | refine w_lssN rfl rfl (fun hc => ?_) (fun hc => ?_) | refine w_opk rfl rfl ?_ | refine w_cond_t rfl ?_ | refine w_cond_f rfl ?_ | refine w_skip ?_ | refine w_ret ?_ | refine w_rt rfl ?_)
  · exact absurd hc (by omega)
  refine w_rem rfl rfl (by omega) ?_
  repeat' (first | refine w_seq ?_ | refine w_reg ?_ | refine w_e ?_ | refine w_lss rfl rfl (fun hc => ?_) (fun hc => ?_) | refine w_opk rfl rfl ?_ | refine w_cond_t rfl ?_ | refine w_cond_f rfl ?_ | refine w_skip ?_ | refine w_ret ?_ | refine w_rt rfl ?_)
  · have hc : n.tmod (Int.ofNat L) < 0 := hc
    have hq : wrapK .i64 (Int.add (n.tmod (Int.ofNat L)) (Int.ofNat L)) = Int.ofNat (n.tmod (Int.ofNat L) + Int.ofNat L).toNat := by
      have e1 : Int.add (n.tmod (Int.ofNat L)) (Int.ofNat L) = n.tmod (Int.ofNat L) + Int.ofNat L := rfl
      rw [wrapK_eq, e1, wrap_i64_of (by omega) (by omega)]
      show _ = ((_ : Nat) : Int)
      omega
    exact ⟨⟨_, by rw [hq]; rfl, by omega⟩, rfl⟩
  · have hc : 0 ≤ n.tmod (Int.ofNat L) := hc
    have hq : n.tmod (Int.ofNat L) = Int.ofNat (n.tmod (Int.ofNat L)).toNat := by
      show _ = ((_ : Nat) : Int)
      omega
    exact ⟨⟨(n.tmod (Int.ofNat L)).toNat, by rw [← hq]; rfl, by omega⟩, rfl⟩

theorem recordCuts_ok (hO : OffL19 O) {Z : Nat → Prop} {h0 : Heap} {c d : List V} {R S : RecT} {n : Int} (hf : RecR Z h0 c R) (ht : TyR R) (hlR : LenR R) (hlen : (cRec.enc R).length ≤ 3999990000) (hg : RecR Z h0 d S) (ht2 : TyR S) (hlS : LenR S) (hlen2 : (cRec.enc S).length ≤ 3999990000) (hz : ∀ i, Z i → i < h0.n) :
    WPc tab.get O 8 [.agg c, .agg d, .int .i64 n] h0 (fun v h' => v = .bool true) := by
  refine w_fn' (hO.law _ _) rfl rfl (by simp only [c8, initV, nth] <;> rfl) ?_
  have hsf := hf.shape
  have hsg := hg.shape
  refine w_seq (w_reg (w_box rfl hsf.1 hsf.2 fun iF h1 hF hiF hE1 => ?_))
  refine w_box rfl hsg.1 hsg.2 fun iG h2 hG hiG hE2 => ?_
  replace hF : Own h2 iF c := hF.ext0 hE2
  replace hG : Own h2 iG d := hG
  have E2 := hE1.trans hE2
  replace hf := hf.ext0 E2
  replace hg := hg.ext0 E2
  have hc5 : List.take 14 c = c := List.take_of_length_le (by omega)
  have hd5 : List.take 14 d = d := List.take_of_length_le (by omega)
  clear hE1 hE2
  repeat' (first | refine w_seq ?_ | refine w_reg ?_ | refine w_e ?_ | refine w_opk rfl rfl ?_)
  refine w_loadA rfl (hF.at hsf.1) (by rw [hsf.1]; rfl) ?_
  rw [hc5]
  refine w_call rfl ((few19_ok hO.toRF hf ht hlR).mono fun _ h3 ⟨⟨r, e⟩, hE⟩ => ?_)
  subst e
  replace hF := hF.ext0 hE
  replace hG := hG.ext0 hE
  replace hf := hf.ext0 hE
  replace hg := hg.ext0 hE
  have E3 := E2.trans hE
  clear hE E2
  cases r with
  | false =>
    repeat' (first | refine w_seq ?_ | refine w_reg ?_ | refine w_e ?_ | refine w_off rfl ?_ | refine w_opk rfl rfl ?_ | refine w_cond_t rfl ?_)
    refine w_aw19 hO ?_
    repeat' (first | refine w_e ?_ | refine w_opk rfl rfl ?_ | refine w_ret ?_ | refine w_rt rfl ?_)
    rfl
  | true =>
  repeat' (first | refine w_on rfl ?_ | refine w_opk rfl rfl ?_)
  refine w_loadA rfl (hG.at hsg.1) (by rw [hsg.1]; rfl) ?_
  rw [hd5]
  repeat' (first | refine w_on rfl ?_)
  refine w_call rfl ((few19_ok hO.toRF hg ht2 hlS).mono fun _ h4 ⟨⟨r, e⟩, hE⟩ => ?_)
  subst e
  replace hF := hF.ext0 hE
  replace hG := hG.ext0 hE
  replace hf := hf.ext0 hE
  replace hg := hg.ext0 hE
  have E4 := E3.trans hE
  clear hE E3
  cases r with
  | false =>
    repeat' (first | refine w_seq ?_ | refine w_reg ?_ | refine w_e ?_ | refine w_on rfl ?_ | refine w_opk rfl rfl ?_ | refine w_cond_t rfl ?_)
    refine w_aw19 hO ?_
    repeat' (first | refine w_e ?_ | refine w_opk rfl rfl ?_ | refine w_ret ?_ | refine w_rt rfl ?_)
    rfl
  | true =>
  repeat' (first | refine w_seq ?_ | refine w_reg ?_ | refine w_e ?_ | refine w_on rfl ?_ | refine w_opk rfl rfl ?_ | refine w_cond_f rfl ?_ | refine w_skip ?_)
  refine w_loadA rfl (hF.at hsf.1) (by rw [hsf.1]; rfl) ?_
  rw [hc5]
  refine w_call rfl ((abytes_ok hO.toAW hf (fun i z => by have := hz i z; have := E4.1; omega) ht hlen).mono fun _ h5 ⟨hE, b1, e1, ev, k1, k2⟩ => ?_)
  subst ev
  replace hF := hF.ext0 hE
  replace hG := hG.ext0 hE
  replace hf := hf.ext0 hE
  replace hg := hg.ext0 hE
  have E5 := E4.trans hE
  clear hE E4
  repeat' (first | refine w_seq ?_ | refine w_reg ?_ | refine w_e ?_ | refine w_opk rfl rfl ?_)
  refine w_loadA rfl (hG.at hsg.1) (by rw [hsg.1]; rfl) ?_
  rw [hd5]
  refine w_call rfl ((abytes_ok hO.toAW hg (fun i z => by have := hz i z; have := E5.1; omega) ht2 hlen2).mono fun _ h6 ⟨hE, b2, e2, ev, k3, k4⟩ => ?_)
  subst ev
  replace hF := hF.ext0 hE
  replace hG := hG.ext0 hE
  replace hf := hf.ext0 hE
  replace hg := hg.ext0 hE
  by_cases hok : cRec.ok R
  · obtain ⟨z1, o1⟩ := k1 hok
    subst z1
    replace o1 := o1.ext0 hE
    clear k1 k2
    have hby := cRec.byt R hok
    have hl1 : 1 ≤ (cRec.enc R).length := by
      rw [enc_rec, enc_tag]; have := encU_ge 9 R.2.1.length; simp only [List.length_append]; omega
    have hml : ((cRec.enc R).map byteC).length = (cRec.enc R).length := List.length_map ..
    by_cases hok2 : cRec.ok S
    · obtain ⟨z1, o2⟩ := k3 hok2
      subst z1
      have hby2 := cRec.byt S hok2
      repeat' (first | refine w_seq ?_ | refine w_reg ?_ | refine w_e ?_ | refine w_on rfl ?_ | refine w_opk rfl rfl ?_ | refine w_cond_f rfl ?_ | refine w_skip ?_)
      refine w_loadA rfl (hF.at hsf.1) (by rw [hsf.1]; rfl) ?_
      repeat' (first | refine w_on rfl ?_)
      refine w_loadA rfl (hG.at hsg.1) (by rw [hsg.1]; rfl) ?_
      repeat' (first | refine w_on rfl ?_)
      refine w_call rfl ((bytesEq_ok hO.eq o1.rs o2.rs hby hby2).mono fun _ h7 ⟨⟨r, e, er⟩, e2⟩ => ?_)
      subst e e2
      repeat' (first | refine w_on rfl ?_)
      refine w_chkA rfl rfl (hG.at hsg.1) (by omega) (V.beqL_refl _) ?_
      repeat' (first | refine w_on rfl ?_)
      refine w_chkA rfl rfl (hF.at hsf.1) (by omega) (V.beqL_refl _) ?_
      repeat' (first | refine w_on rfl ?_)
      refine w_callA [.agg c, .agg d] (by rw [hc5, hd5]; rfl) ((same19_ok hO.toRS hf hg hok hok2).mono fun _ h8 ⟨⟨s, e, es⟩, hE8⟩ => ?_)
      subst e
      have hrs : r = s := by
        have := cRec.inj hok hok2
        cases r <;> cases s <;> simp_all
      subst hrs
      replace o1 := o1.ext0 hE8
      clear hE8
      cases r <;> (
        repeat' (first | refine w_seq ?_ | refine w_reg ?_ | refine w_e ?_ | refine w_on rfl ?_ | refine w_opk rfl rfl ?_ | refine w_cond_f rfl ?_ | refine w_skip ?_)
        refine w_len rfl o1.rs ?_
        rw [hml]
        refine w_callA [.int .i64 n, .int .i64 (.ofNat (cRec.enc R).length)] rfl ((pick19_ok hO.pk (L := (cRec.enc R).length) (by omega) (by omega)).mono fun _ ha ⟨⟨k, e, hk⟩, e2⟩ => ?_)
        subst e e2
        repeat' (first | refine w_seq ?_ | refine w_reg ?_ | refine w_e ?_ | refine w_opk rfl rfl ?_)
        refine w_slHi rfl rfl o1 (by rw [hml]; omega) fun v1 p1 _ => ?_
        rw [← List.map_take] at p1
        refine w_call rfl ((aread_ok hO.toAR (bs := (cRec.enc R).take k) ⟨p1.rs, fun x hx => hby x (List.mem_of_mem_take hx), by rw [List.length_take]; omega⟩ p1).mono fun _ hb ⟨hEb, c1, e1, ev, hc14, hc1, g1⟩ => ?_)
        subst ev
        obtain rfl := g1 fun x => cRec.cut hok hk
        replace o1 := o1.ext0 hEb
        clear hEb p1
        repeat' (first | refine w_opk rfl rfl ?_)
        refine w_alloc fun iv hc hV hiV hEc => ?_
        refine w_store rfl rfl hV hc14 hc1 (by decide) (by decide) fun hd hV2 yv zv => ?_
        replace o1 := (o1.ext0 hEc).ext yv (fun j hj e => by simp at e; have := o1.rs.lt j hj; omega)
        clear hV hV2 yv hEc
        repeat' (first | refine w_seq ?_ | refine w_reg ?_ | refine w_e ?_ | refine w_opk rfl rfl ?_)
        refine w_bslice (ps := []) (cs := []) [] rfl rfl rfl rfl (by simp) fun w0 he q0 f0 => ?_
        replace o1 := o1.ext0 f0.ext0
        refine w_opq rfl rfl ?_
        refine w_app rfl rfl q0 o1.rs (by simp; omega) fun w1 hf1 q1 f1 => ?_
        refine w_push rfl rfl rfl rfl (fun _ => rfl) q1 (by simp; omega) fun a w2 hg1 q2 f2 => ?_
        have hq : ([] ++ (cRec.enc R).map byteC) ++ [(V.int .u8 (.ofNat 0)).cells] = (cRec.enc R ++ [0]).map byteC := by
          rw [List.map_append]; rfl
        replace q2 : Ow hg1 1 w2 ((cRec.enc R ++ [0]).map byteC) := by rw [← hq]; exact q2
        refine w_call rfl ((aread_ok hO.toAR (bs := cRec.enc R ++ [0]) ⟨q2.rs, hby.append (fun x hx => by simp at hx; omega), by simp; omega⟩ q2).mono fun _ hi ⟨hEi, c2, e2, ev, hd14, hd1, g2⟩ => ?_)
        subst ev
        obtain rfl := g2 fun x => cRec.more hok
        repeat' (first | refine w_opk rfl rfl ?_)
        refine w_alloc fun iw hj hW hiW hEj => ?_
        refine w_store rfl rfl hW hd14 hd1 (by decide) (by decide) fun hl hW2 yw zw => ?_
        repeat' (first | refine w_seq ?_ | refine w_reg ?_ | refine w_e ?_ | refine w_on rfl ?_ | refine w_opk rfl rfl ?_)
        refine w_aw19 hO ?_
        repeat' (first | refine w_e ?_ | refine w_opk rfl rfl ?_ | refine w_ret ?_ | refine w_rt rfl ?_)
        rfl)
    · obtain ⟨z1, z2⟩ := k4 hok2
      subst z1 z2
      repeat' (first | refine w_seq ?_ | refine w_reg ?_ | refine w_e ?_ | refine w_off rfl ?_ | refine w_opk rfl rfl ?_ | refine w_cond_f rfl ?_ | refine w_skip ?_)
      refine w_len rfl o1.rs ?_
      rw [hml]
      refine w_callA [.int .i64 n, .int .i64 (.ofNat (cRec.enc R).length)] rfl ((pick19_ok hO.pk (L := (cRec.enc R).length) (by omega) (by omega)).mono fun _ ha ⟨⟨k, e, hk⟩, e2⟩ => ?_)
      subst e e2
      repeat' (first | refine w_seq ?_ | refine w_reg ?_ | refine w_e ?_ | refine w_opk rfl rfl ?_)
      refine w_slHi rfl rfl o1 (by rw [hml]; omega) fun v1 p1 _ => ?_
      rw [← List.map_take] at p1
      refine w_call rfl ((aread_ok hO.toAR (bs := (cRec.enc R).take k) ⟨p1.rs, fun x hx => hby x (List.mem_of_mem_take hx), by rw [List.length_take]; omega⟩ p1).mono fun _ hb ⟨hEb, c1, e1, ev, hc14, hc1, g1⟩ => ?_)
      subst ev
      obtain rfl := g1 fun x => cRec.cut hok hk
      replace o1 := o1.ext0 hEb
      clear hEb p1
      repeat' (first | refine w_opk rfl rfl ?_)
      refine w_alloc fun iv hc hV hiV hEc => ?_
      refine w_store rfl rfl hV hc14 hc1 (by decide) (by decide) fun hd hV2 yv zv => ?_
      replace o1 := (o1.ext0 hEc).ext yv (fun j hj e => by simp at e; have := o1.rs.lt j hj; omega)
      clear hV hV2 yv hEc
      repeat' (first | refine w_seq ?_ | refine w_reg ?_ | refine w_e ?_ | refine w_opk rfl rfl ?_)
      refine w_bslice (ps := []) (cs := []) [] rfl rfl rfl rfl (by simp) fun w0 he q0 f0 => ?_
      replace o1 := o1.ext0 f0.ext0
      refine w_opq rfl rfl ?_
      refine w_app rfl rfl q0 o1.rs (by simp; omega) fun w1 hf1 q1 f1 => ?_
      refine w_push rfl rfl rfl rfl (fun _ => rfl) q1 (by simp; omega) fun a w2 hg1 q2 f2 => ?_
      have hq : ([] ++ (cRec.enc R).map byteC) ++ [(V.int .u8 (.ofNat 0)).cells] = (cRec.enc R ++ [0]).map byteC := by
        rw [List.map_append]; rfl
      replace q2 : Ow hg1 1 w2 ((cRec.enc R ++ [0]).map byteC) := by rw [← hq]; exact q2
      refine w_call rfl ((aread_ok hO.toAR (bs := cRec.enc R ++ [0]) ⟨q2.rs, hby.append (fun x hx => by simp at hx; omega), by simp; omega⟩ q2).mono fun _ hi ⟨hEi, c2, e2, ev, hd14, hd1, g2⟩ => ?_)
      subst ev
      obtain rfl := g2 fun x => cRec.more hok
      repeat' (first | refine w_opk rfl rfl ?_)
      refine w_alloc fun iw hj hW hiW hEj => ?_
      refine w_store rfl rfl hW hd14 hd1 (by decide) (by decide) fun hl hW2 yw zw => ?_
      repeat' (first | refine w_seq ?_ | refine w_reg ?_ | refine w_e ?_ | refine w_on rfl ?_ | refine w_opk rfl rfl ?_)
      refine w_aw19 hO ?_
      repeat' (first | refine w_e ?_ | refine w_opk rfl rfl ?_ | refine w_ret ?_ | refine w_rt rfl ?_)
      rfl
  · obtain ⟨z1, z2⟩ := k2 hok
    subst z1 z2
    repeat' (first | refine w_seq ?_ | refine w_reg ?_ | refine w_e ?_ | refine w_on rfl ?_ | refine w_opk rfl rfl ?_ | refine w_cond_t rfl ?_)
    refine w_aw19 hO ?_
    repeat' (first | refine w_e ?_ | refine w_opk rfl rfl ?_ | refine w_ret ?_ | refine w_rt rfl ?_)
    rfl
end AmT
