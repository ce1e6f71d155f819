/-
  IrBack answers true at any code and any bytes. Conditions: the code and the bytes are of their kinds, and not too long.
-/
import Derived.Test.YtdeehlcjhmjofaaGreatDoorFKit
namespace AmT
open Go Am
set_option maxRecDepth 100000
set_option maxHeartbeats 8000000
set_option linter.unusedSimpArgs false
set_option linter.unusedVariables false
variable {O : CallF}

/-- The examples are known, no other call is. -/
structure OffL14 (O : CallF) : Prop where
  toRd : OffRd O
  toWr : OffWr O
  toFS : OffFS O
  toFK : OffFK O
  aw : ∀ h, O 25 [] h = some (.bool true, h)
  l1 : ∀ a h, O 8 a h = none
  l2 : ∀ a h, O 9 a h = none

theorem w_aw14 (hO : OffL14 O) {vs ls : List V} {h : Heap} {Q : List V → Heap → Prop} {os : List AOp} (k1 : WPo tab.get O os (.bool true :: ls) vs h Q) : WPo tab.get O (⟨none, .call 25 []⟩ :: os) ls vs h Q :=
  w_call rfl (w_known (hO.aw h) k1)

theorem irBack_ok (hO : OffL14 O) {Z : Nat → Prop} {h0 : Heap} {c : List V} {f : FastA} {bv : V} {bs : List Nat} (hf : FastR Z h0 c f) (ht : TyF f) (hlen : (wFast f).length ≤ 4000000000) (hB : RdB h0 bv bs) :
    WPc tab.get O 8 [.agg c, bv] h0 (fun v h' => v = .bool true) := by
  refine w_fn' (hO.l1 _ _) rfl rfl (by simp only [c8, initV, nth] <;> rfl) ?_
  have hsh := hf.shape
  refine w_seq (w_reg (w_box rfl hsh.1 hsh.2 fun iF h1 hF hiF hE1 => ?_))
  replace hF : Own h1 iF c := hF
  replace hf := hf.ext0 hE1
  replace hB := hB.ext0 hE1
  have hc5 : List.take 5 c = c := List.take_of_length_le (by omega)
  have r0 := hB.rs
  repeat' (first | refine w_seq ?_ | refine w_reg ?_ | refine w_end (by simp only [outsV, nth, setV, List.take_succ_cons, List.take_zero, List.length_cons, List.length_nil, Nat.zero_add, Nat.reduceAdd] <;> rfl) ?_ | refine w_opk rfl rfl ?_)
  refine w_loadA rfl (hF.at hsh.1) (by rw [hsh.1]; rfl) ?_
  rw [hc5]
  refine w_call rfl ((fgreat_ok hO.toFK hf hlen).mono fun _ h2 ⟨⟨r, e⟩, hE2⟩ => ?_)
  subst e
  replace hF := hF.ext0 hE2
  replace hf := hf.ext0 hE2
  replace hB := hB.ext0 hE2
  have r1 := hB.rs
  clear hE2 hE1 r0
  cases r with
  | true =>
    repeat' (first | refine w_seq ?_ | refine w_reg ?_ | refine w_end (by simp only [outsV, nth, setV, List.take_succ_cons, List.take_zero, List.length_cons, List.length_nil, Nat.zero_add, Nat.reduceAdd] <;> rfl) ?_ | refine w_off rfl ?_ | refine w_opk rfl rfl ?_ | refine w_cond_t rfl ?_)
    refine w_aw14 hO ?_
    repeat' (first | refine w_end (by simp only [outsV, nth, setV, List.take_succ_cons, List.take_zero, List.length_cons, List.length_nil, Nat.zero_add, Nat.reduceAdd] <;> rfl) ?_ | refine w_opk rfl rfl ?_ | refine w_ret ?_ | refine w_rt rfl ?_)
    rfl
  | false =>
    repeat' (first | refine w_seq ?_ | refine w_reg ?_ | refine w_end (by simp only [outsV, nth, setV, List.take_succ_cons, List.take_zero, List.length_cons, List.length_nil, Nat.zero_add, Nat.reduceAdd] <;> rfl) ?_ | refine w_on rfl ?_ | refine w_len rfl (by assumption) ?_ | refine w_gtrN rfl rfl (fun hc => ?_) (fun hc => ?_) | refine w_opk rfl rfl ?_ | refine w_cond_t rfl ?_ | refine w_cond_f rfl ?_ | refine w_skip ?_)
    · refine w_aw14 hO ?_
      repeat' (first | refine w_end (by simp only [outsV, nth, setV, List.take_succ_cons, List.take_zero, List.length_cons, List.length_nil, Nat.zero_add, Nat.reduceAdd] <;> rfl) ?_ | refine w_opk rfl rfl ?_ | refine w_ret ?_ | refine w_rt rfl ?_)
      rfl
    have hbl : (bs.map byteC).length ≤ 100000 := by assumption
    rw [List.length_map] at hbl
    clear r1
    refine w_loadA rfl (hF.at hsh.1) (by rw [hsh.1]; rfl) ?_
    rw [hc5]
    refine w_call rfl ((bytes_ok hO.toWr hf ht hlen).mono fun _ h3 ⟨hE3, b1, e1, ev, k1, k2⟩ => ?_)
    subst ev
    replace hF := hF.ext0 hE3
    replace hf := hf.ext0 hE3
    replace hB := hB.ext0 hE3
    clear hE3
    repeat' (first | refine w_seq ?_ | refine w_reg ?_ | refine w_end (by simp only [outsV, nth, setV, List.take_succ_cons, List.take_zero, List.length_cons, List.length_nil, Nat.zero_add, Nat.reduceAdd] <;> rfl) ?_ | refine w_eql rfl rfl (fun hc => ?_) (fun hc => ?_) | refine w_opk rfl rfl ?_ | refine w_cond_t rfl ?_ | refine w_cond_f rfl ?_ | refine w_skip ?_)
    · have he0 : e1 = 0 := by assumption
      have hbf : bFast f = false := by
        cases hbb : bFast f with
        | false => rfl
        | true => have := (k2 hbb).1; omega
      have hok := (bFast_iff f ht).1 hbf
      have hw := wFast_eq hok
      have o1 := (k1 hbf).2
      have hB1 : RdB h3 b1 (wFast f) := ⟨o1.rs, by rw [hw]; exact cFast.byt f hok, by omega⟩
      refine w_call rfl ((read_ok hO.toRd hB1).mono fun _ h4 ⟨hE4, c2, e2, ev, g1, _⟩ => ?_)
      subst ev
      obtain ⟨z2, f2⟩ := g1 f (by have := cFast.ed f [] hok; rwa [List.append_nil, ← hw] at this)
      subst z2
      replace hF := hF.ext0 hE4
      replace hf := hf.ext0 hE4
      replace hB := hB.ext0 hE4
      have hs2 := f2.shape
      repeat' (first | refine w_opk rfl rfl ?_)
      refine w_alloc fun ig h5 hG hiG hE5 => ?_
      have hFl := hF.1
      refine w_store rfl rfl hG hs2.1 hs2.2 (by decide) (by simp) fun h6 hG2 y6 z6 => ?_
      have hEE : Ext h4 h6 := hE5.step y6 fun j hj => by simp at hj; exact .inr (by omega)
      replace hG : Own h6 ig c2 := own_over hG2 hs2.1
      replace hF := hF.ext0 hEE
      replace hf := hf.ext0 hEE
      replace hB := hB.ext0 hEE
      replace f2 := f2.ext0 hEE
      have hc52 : List.take 5 c2 = c2 := List.take_of_length_le (by omega)
      clear hG2 y6 hE5 hEE hE4 o1 hB1
      repeat' (first | refine w_seq ?_ | refine w_reg ?_ | refine w_end (by simp only [outsV, nth, setV, List.take_succ_cons, List.take_zero, List.length_cons, List.length_nil, Nat.zero_add, Nat.reduceAdd] <;> rfl) ?_ | refine w_on rfl ?_ | refine w_opk rfl rfl ?_)
      refine w_loadA rfl (hF.at hsh.1) (by rw [hsh.1]; rfl) ?_
      repeat' (first | refine w_on rfl ?_)
      refine w_loadA rfl (hG.at hs2.1) (by rw [hs2.1]; rfl) ?_
      rw [hc5, hc52]
      repeat' (first | refine w_on rfl ?_)
      refine w_call rfl ((fsame_ok hO.toFS hf f2 hlen).mono fun _ h7 ⟨⟨r, e, er⟩, hE7⟩ => ?_)
      obtain rfl := er.2 rfl
      subst e
      replace hB := hB.ext0 hE7
      clear hE7 hF hf f2 hG
      repeat' (first | refine w_seq ?_ | refine w_reg ?_ | refine w_end (by simp only [outsV, nth, setV, List.take_succ_cons, List.take_zero, List.length_cons, List.length_nil, Nat.zero_add, Nat.reduceAdd] <;> rfl) ?_ | refine w_on rfl ?_ | refine w_opk rfl rfl ?_ | refine w_cond_f rfl ?_ | refine w_skip ?_)
      refine w_call rfl ((read_ok hO.toRd hB).mono fun _ h8 ⟨hE8, c3, e3, ev, g3, g4⟩ => ?_)
      subst ev
      replace hB := hB.ext0 hE8
      have hs3 : c3.length = 5 ∧ allOne c3 = true := by
        by_cases hd : ∃ x, cFast.dec bs = some (x, [])
        · obtain ⟨x, hd⟩ := hd
          exact (g3 x hd).2.shape
        · rw [(g4 fun x e => hd ⟨x, e⟩).2]
          exact ⟨rfl, rfl⟩
      repeat' (first | refine w_opk rfl rfl ?_)
      refine w_alloc fun iv h9 hV hiV hE9 => ?_
      refine w_store rfl rfl hV hs3.1 hs3.2 (by decide) (by simp) fun h10 hV2 yv zv => ?_
      have hEE : Ext h8 h10 := hE9.step yv fun j hj => by simp at hj; exact .inr (by omega)
      replace hV : Own h10 iv c3 := own_over hV2 hs3.1
      replace hB := hB.ext0 hEE
      have hc53 : List.take 5 c3 = c3 := List.take_of_length_le (by omega)
      clear hV2 yv hE9 hE8
      by_cases hd : ∃ x, cFast.dec bs = some (x, [])
      · obtain ⟨x, hd⟩ := hd
        obtain ⟨z3, f3⟩ := g3 x hd
        subst z3
        replace f3 := f3.ext0 hEE
        obtain ⟨hok, hbs⟩ := cFast.de bs x [] hB.by_ hd
        rw [List.append_nil] at hbs
        have hty := ok_ty hok
        have hw := wFast_eq hok
        repeat' (first | refine w_seq ?_ | refine w_reg ?_ | refine w_end (by simp only [outsV, nth, setV, List.take_succ_cons, List.take_zero, List.length_cons, List.length_nil, Nat.zero_add, Nat.reduceAdd] <;> rfl) ?_ | refine w_opk rfl rfl ?_ | refine w_cond_f rfl ?_ | refine w_skip ?_)
        refine w_loadA rfl (hV.at hs3.1) (by rw [hs3.1]; rfl) ?_
        rw [hc53]
        refine w_call rfl ((bytes_ok hO.toWr f3 hty (by rw [hw, ← hbs]; omega)).mono fun _ h11 ⟨hE11, b4, e4, ev, k4, _⟩ => ?_)
        obtain ⟨z4, o4⟩ := k4 ((bFast_iff x hty).2 hok)
        subst ev z4
        replace hB := hB.ext0 hE11
        rw [hw, ← hbs] at o4
        repeat' (first | refine w_seq ?_ | refine w_reg ?_ | refine w_end (by simp only [outsV, nth, setV, List.take_succ_cons, List.take_zero, List.length_cons, List.length_nil, Nat.zero_add, Nat.reduceAdd] <;> rfl) ?_ | refine w_on rfl ?_ | refine w_opk rfl rfl ?_)
        refine w_call rfl ((bytesEq_ok hO.toFK o4.rs hB.rs hB.by_ hB.by_).mono fun _ h12 ⟨⟨r, e, er⟩, _⟩ => ?_)
        obtain rfl := er.2 rfl
        subst e
        repeat' (first | refine w_on rfl ?_ | refine w_opk rfl rfl ?_)
        refine w_aw14 hO ?_
        repeat' (first | refine w_end (by simp only [outsV, nth, setV, List.take_succ_cons, List.take_zero, List.length_cons, List.length_nil, Nat.zero_add, Nat.reduceAdd] <;> rfl) ?_ | refine w_opk rfl rfl ?_ | refine w_ret ?_ | refine w_rt rfl ?_)
        rfl
      · obtain ⟨z3, z4⟩ := g4 fun x e => hd ⟨x, e⟩
        subst z3 z4
        replace hV : Own h10 iv [.int .i64 0, .int .i64 0, .nils, .nils, .nils] := hV
        repeat' (first | refine w_seq ?_ | refine w_reg ?_ | refine w_end (by simp only [outsV, nth, setV, List.take_succ_cons, List.take_zero, List.length_cons, List.length_nil, Nat.zero_add, Nat.reduceAdd] <;> rfl) ?_ | refine w_rfg rfl rfl (by assumption) (by rfl) (by rfl) (by rfl) (by rfl) ?_ | refine w_on rfl ?_ | refine w_opk rfl rfl ?_ | refine w_cond_t rfl ?_)
        refine w_aw14 hO ?_
        repeat' (first | refine w_end (by simp only [outsV, nth, setV, List.take_succ_cons, List.take_zero, List.length_cons, List.length_nil, Nat.zero_add, Nat.reduceAdd] <;> rfl) ?_ | refine w_opk rfl rfl ?_ | refine w_ret ?_ | refine w_rt rfl ?_)
        rfl
    · refine w_call rfl ((read_ok hO.toRd hB).mono fun _ h8 ⟨hE8, c3, e3, ev, g3, g4⟩ => ?_)
      subst ev
      replace hB := hB.ext0 hE8
      have hs3 : c3.length = 5 ∧ allOne c3 = true := by
        by_cases hd : ∃ x, cFast.dec bs = some (x, [])
        · obtain ⟨x, hd⟩ := hd
          exact (g3 x hd).2.shape
        · rw [(g4 fun x e => hd ⟨x, e⟩).2]
          exact ⟨rfl, rfl⟩
      repeat' (first | refine w_opk rfl rfl ?_)
      refine w_alloc fun iv h9 hV hiV hE9 => ?_
      refine w_store rfl rfl hV hs3.1 hs3.2 (by decide) (by simp) fun h10 hV2 yv zv => ?_
      have hEE : Ext h8 h10 := hE9.step yv fun j hj => by simp at hj; exact .inr (by omega)
      replace hV : Own h10 iv c3 := own_over hV2 hs3.1
      replace hB := hB.ext0 hEE
      have hc53 : List.take 5 c3 = c3 := List.take_of_length_le (by omega)
      clear hV2 yv hE9 hE8
      by_cases hd : ∃ x, cFast.dec bs = some (x, [])
      · obtain ⟨x, hd⟩ := hd
        obtain ⟨z3, f3⟩ := g3 x hd
        subst z3
        replace f3 := f3.ext0 hEE
        obtain ⟨hok, hbs⟩ := cFast.de bs x [] hB.by_ hd
        rw [List.append_nil] at hbs
        have hty := ok_ty hok
        have hw := wFast_eq hok
        repeat' (first | refine w_seq ?_ | refine w_reg ?_ | refine w_end (by simp only [outsV, nth, setV, List.take_succ_cons, List.take_zero, List.length_cons, List.length_nil, Nat.zero_add, Nat.reduceAdd] <;> rfl) ?_ | refine w_opk rfl rfl ?_ | refine w_cond_f rfl ?_ | refine w_skip ?_)
        refine w_loadA rfl (hV.at hs3.1) (by rw [hs3.1]; rfl) ?_
        rw [hc53]
        refine w_call rfl ((bytes_ok hO.toWr f3 hty (by rw [hw, ← hbs]; omega)).mono fun _ h11 ⟨hE11, b4, e4, ev, k4, _⟩ => ?_)
        obtain ⟨z4, o4⟩ := k4 ((bFast_iff x hty).2 hok)
        subst ev z4
        replace hB := hB.ext0 hE11
        rw [hw, ← hbs] at o4
        repeat' (first | refine w_seq ?_ | refine w_reg ?_ | refine w_end (by simp only [outsV, nth, setV, List.take_succ_cons, List.take_zero, List.length_cons, List.length_nil, Nat.zero_add, Nat.reduceAdd] <;> rfl) ?_ | refine w_on rfl ?_ | refine w_opk rfl rfl ?_)
        refine w_call rfl ((bytesEq_ok hO.toFK o4.rs hB.rs hB.by_ hB.by_).mono fun _ h12 ⟨⟨r, e, er⟩, _⟩ => ?_)
        obtain rfl := er.2 rfl
        subst e
        repeat' (first | refine w_on rfl ?_ | refine w_opk rfl rfl ?_)
        refine w_aw14 hO ?_
        repeat' (first | refine w_end (by simp only [outsV, nth, setV, List.take_succ_cons, List.take_zero, List.length_cons, List.length_nil, Nat.zero_add, Nat.reduceAdd] <;> rfl) ?_ | refine w_opk rfl rfl ?_ | refine w_ret ?_ | refine w_rt rfl ?_)
        rfl
      · obtain ⟨z3, z4⟩ := g4 fun x e => hd ⟨x, e⟩
        subst z3 z4
        replace hV : Own h10 iv [.int .i64 0, .int .i64 0, .nils, .nils, .nils] := hV
        repeat' (first | refine w_seq ?_ | refine w_reg ?_ | refine w_end (by simp only [outsV, nth, setV, List.take_succ_cons, List.take_zero, List.length_cons, List.length_nil, Nat.zero_add, Nat.reduceAdd] <;> rfl) ?_ | refine w_rfg rfl rfl (by assumption) (by rfl) (by rfl) (by rfl) (by rfl) ?_ | refine w_on rfl ?_ | refine w_opk rfl rfl ?_ | refine w_cond_t rfl ?_)
        refine w_aw14 hO ?_
        repeat' (first | refine w_end (by simp only [outsV, nth, setV, List.take_succ_cons, List.take_zero, List.length_cons, List.length_nil, Nat.zero_add, Nat.reduceAdd] <;> rfl) ?_ | refine w_opk rfl rfl ?_ | refine w_ret ?_ | refine w_rt rfl ?_)
        rfl
end AmT
