/-
  droverlaw14.Same: is code the same. Conditions: none.
-/
import Derived.Test.YtdeehlcjhmjofaaGreatDoorBytes
namespace AmT
open Go Am
set_option maxRecDepth 100000
set_option maxHeartbeats 8000000
set_option linter.unusedSimpArgs false
set_option linter.unusedVariables false
variable {O : CallF}

structure OffFS (O : CallF) : Prop where
  si : ∀ a h, O 66 a h = none
  sa : ∀ a h, O 28 a h = none

theorem sameInts_ok (hO : OffFS O) {h0 : Heap} {va vb : V} {a b : List Int} (ra : RS h0 1 va (a.map intC)) (rb : RS h0 1 vb (b.map intC)) (hl : a.length ≤ 4294967296) :
    WPc tab.get O 66 [va, vb] h0 (fun v h' => (∃ r, v = .bool r ∧ (r = true ↔ a = b)) ∧ h' = h0) := by
  refine w_fn' (hO.si _ _) rfl rfl (by simp only [c66, initV, nth] <;> rfl) ?_
  repeat' (first | refine w_seq ?_ | refine w_reg ?_ | refine w_end (by simp only [outsV, nth, setV, List.take_succ_cons, List.take_zero, List.length_cons, List.length_nil, Nat.zero_add, Nat.reduceAdd] <;> rfl) ?_ | refine w_len rfl (by assumption) ?_ | refine w_neqN rfl rfl (fun hc => ?_) (fun hc => ?_) | refine w_opk rfl rfl ?_ | refine w_cond_t rfl ?_ | refine w_cond_f rfl ?_ | refine w_skip ?_ | refine w_ret ?_ | refine w_rt rfl ?_)
  · have hc : (a.map intC).length ≠ (b.map intC).length := by assumption
    exact ⟨⟨false, rfl, by simp; rintro rfl; exact hc rfl⟩, rfl⟩
  have hab : (a.map intC).length = (b.map intC).length := by assumption
  simp only [map_len] at hab
  refine w_count (fun j vs h => h = h0 ∧ a.take j = b.take j ∧ ∃ b3 b5 b6, vs = [va, vb, .bool false, b3, .int .i64 (.ofNat j), b5, b6]) (a.map intC).length ⟨rfl, rfl, _, _, _, rfl⟩ ?_
  rintro j vs h hj ⟨rfl, he, b3, b5, b6, rfl⟩
  repeat' (first | refine w_seq ?_ | refine w_reg ?_ | refine w_end (by simp only [outsV, nth, setV, List.take_succ_cons, List.take_zero, List.length_cons, List.length_nil, Nat.zero_add, Nat.reduceAdd] <;> rfl) ?_ | refine w_len rfl (by assumption) ?_ | refine w_lssN rfl rfl (fun hc => ?_) (fun hc => ?_) | refine w_opk rfl rfl ?_ | refine w_cond_t rfl ?_ | refine w_cond_f rfl ?_ | refine w_skip ?_ | refine w_exit rfl ?_ | refine w_ret ?_ | refine w_rt rfl ?_)
  · have hj1 : j < (a.map intC).length := by assumption
    have hj2 : j < a.length := by simpa using hj1
    have hj3 : j < b.length := by omega
    refine w_block ?_
    have hA := slot_at ra hj1
    have hB := slot_at (j := j) rb (by simpa using hj3)
    rw [List.getElem_map] at hA hB
    repeat' (first | refine w_seq ?_ | refine w_reg ?_ | refine w_opk rfl rfl ?_)
    refine w_iadrS rfl rfl ra hj1 ?_
    refine w_load1 (c := []) rfl hA rfl ?_
    repeat' (first | refine w_opk rfl rfl ?_)
    refine w_iadrS rfl rfl rb (by simpa using hj3) ?_
    refine w_load1 (c := []) rfl hB rfl ?_
    repeat' (first | refine w_seq ?_ | refine w_reg ?_ | refine w_end (by simp only [outsV, nth, setV, List.take_succ_cons, List.take_zero, List.length_cons, List.length_nil, Nat.zero_add, Nat.reduceAdd] <;> rfl) ?_ | refine w_neq rfl rfl (fun hc => ?_) (fun hc => ?_) | refine w_addN rfl rfl (by omega) ?_ | refine w_opk rfl rfl ?_ | refine w_cond_t rfl ?_ | refine w_cond_f rfl ?_ | refine w_skip ?_ | refine w_ret ?_ | refine w_rt rfl ?_)
    · have hc : a[j] ≠ b[j] := by assumption
      exact ⟨⟨false, rfl, by simp; rintro rfl; exact hc rfl⟩, rfl⟩
    · have hc : a[j] = b[j] := by assumption
      exact ⟨hj1, rfl, take_eq hj2 hj3 he hc, _, _, _, rfl⟩
  · have hj1 : (a.map intC).length ≤ j := by assumption
    simp only [map_len] at hj1
    rw [List.take_of_length_le hj1, List.take_of_length_le (by omega)] at he
    exact ⟨⟨true, rfl, by simp [he]⟩, rfl⟩

theorem fsame_ok (hO : OffFS O) {Za Zb : Nat → Prop} {h0 : Heap} {ca cb : List V} {f g : FastA} (ha : FastR Za h0 ca f) (hb : FastR Zb h0 cb g) (hlen : (wFast f).length ≤ 4000000000) :
    WPc tab.get O 28 [.agg ca, .agg cb] h0 (fun v h' => (∃ r, v = .bool r ∧ (r = true ↔ f = g)) ∧ Ext h0 h') := by
  refine w_fn' (hO.sa _ _) rfl rfl (by simp only [c28, initV, nth] <;> rfl) ?_
  have hsa := ha.shape
  have hsb := hb.shape
  refine w_seq (w_reg (w_box rfl hsa.1 hsa.2 fun iA h1 hA hiA hE1 => ?_))
  refine w_box rfl hsb.1 hsb.2 fun iB h2 hB hiB hE2 => ?_
  have E2 := hE1.trans hE2
  replace hA : Own h2 iA ca := hA.ext0 hE2
  replace hB : Own h2 iB cb := hB
  replace ha := ha.ext0 E2
  replace hb := hb.ext0 E2
  clear hE1 hE2
  obtain ⟨vc, ve, vn, le, rfl, rc, re, ke, rn⟩ := ha
  obtain ⟨wc, we, wn, me, rfl, tc, te, le', tn⟩ := hb
  obtain ⟨fn, regs, code, exits, needs⟩ := f
  obtain ⟨fn', regs', code', exits', needs'⟩ := g
  simp only at rc re ke rn tc te le' tn ⊢
  unfold wFast at hlen
  simp only [List.length_append] at hlen
  have hcl : code.length ≤ 4000000000 := by have := encL_ge wSpec_ge code; omega
  have hel : exits.length ≤ 4000000000 := by have := encL_ge wExit_ge exits; omega
  have hnl : needs.length ≤ 4000000000 := by have := encL_ge wNeed_ge needs; omega
  have hex : ∀ e ∈ exits, (wExit e).length ≤ 4000000000 := by
    intro e he
    obtain ⟨j, hj, rfl⟩ := List.mem_iff_getElem.1 he
    have := encL_split wExit exits hj
    omega
  clear hlen
  have r1 := rc.1
  have r2 := re.1
  have r3 := rn.1
  have r4 := tc.1
  have r5 := te.1
  have r6 := tn.1
  have kl := ke.1
  have kl' := le'.1
  repeat' (first | refine w_seq ?_ | refine w_reg ?_ | refine w_end (by simp only [outsV, nth, setV, List.take_succ_cons, List.take_zero, List.length_cons, List.length_nil, Nat.zero_add, Nat.reduceAdd] <;> rfl) ?_ | refine w_off rfl ?_ | refine w_rf rfl (by assumption) (by rfl) (by rfl) (by rfl) ?_ | refine w_rfg rfl rfl (by assumption) (by rfl) (by rfl) (by rfl) (by rfl) ?_ | refine w_on rfl ?_ | refine w_len rfl (by assumption) ?_ | refine w_neqN rfl rfl (fun hc => ?_) (fun hc => ?_) | refine w_neq rfl rfl (fun hc => ?_) (fun hc => ?_) | refine w_opk rfl rfl ?_ | refine w_cond_t rfl ?_ | refine w_cond_f rfl ?_ | refine w_skip ?_ | refine w_ret ?_ | refine w_rt rfl ?_)
  · have hc : fn ≠ fn' := by assumption
    exact ⟨⟨false, rfl, by simp [hc]⟩, E2⟩
  · have hc : regs ≠ regs' := by assumption
    exact ⟨⟨false, rfl, by simp [hc]⟩, E2⟩
  · have hc : (code.map specC).length ≠ (code'.map specC).length := by assumption
    exact ⟨⟨false, rfl, by simp; rintro _ _ rfl; exact absurd rfl hc⟩, E2⟩
  · have hq : le.length ≠ me.length := by assumption
    have hne : exits ≠ exits' := fun e => hq (by rw [kl, kl', e])
    exact ⟨⟨false, rfl, by simp; intro _ _ _ e; exact absurd e hne⟩, E2⟩
  · have hc : (needs.map needC).length ≠ (needs'.map needC).length := by assumption
    exact ⟨⟨false, rfl, by simp; rintro _ _ _ _ rfl; exact absurd rfl hc⟩, E2⟩
  obtain rfl : fn = fn' := by assumption
  obtain rfl : regs = regs' := by assumption
  have lc : (code.map specC).length = (code'.map specC).length := by assumption
  have lle : le.length = me.length := by assumption
  have ln : (needs.map needC).length = (needs'.map needC).length := by assumption
  simp only [map_len] at lc ln
  refine w_count (fun j vs h => h = h2 ∧ code.take j = code'.take j ∧ ∃ b8 b9 b10, vs = [.agg [.int .i64 fn, .int .i64 regs, vc, ve, vn], .agg [.int .i64 fn, .int .i64 regs, wc, we, wn], .bool false, .ptr iA 0 0 5, .ptr iB 0 0 5, .bool false, .int .i64 (.ofNat j), .int .i64 (.ofNat (code.map specC).length), b8, b9, b10, .any, .any, .any, .any, .any, .any, .any, .any, .any, .any, .any, .any, .any, .any, .any, .any, .any]) (code.map specC).length ⟨rfl, rfl, _, _, _, rfl⟩ ?_
  rintro j vs h2 hj ⟨rfl, he, b8, b9, b10, rfl⟩
  repeat' (first | refine w_seq ?_ | refine w_reg ?_ | refine w_end (by simp only [outsV, nth, setV, List.take_succ_cons, List.take_zero, List.length_cons, List.length_nil, Nat.zero_add, Nat.reduceAdd] <;> rfl) ?_ | refine w_rf rfl (by assumption) (by rfl) (by rfl) (by rfl) ?_ | refine w_len rfl (by assumption) ?_ | refine w_lssN rfl rfl (fun hc => ?_) (fun hc => ?_) | refine w_opk rfl rfl ?_ | refine w_cond_t rfl ?_ | refine w_cond_f rfl ?_ | refine w_skip ?_ | refine w_exit rfl ?_)
  · have hj1 : j < (code.map specC).length := by assumption
    have hj2 : j < code.length := by simpa using hj1
    have hj3 : j < code'.length := by omega
    have hA1 := slot_at r1 hj1
    have hB1 := slot_at (j := j) r4 (by simpa using hj3)
    rw [List.getElem_map] at hA1 hB1
    refine w_block ?_
    repeat' (first | refine w_seq ?_ | refine w_reg ?_ | refine w_end (by simp only [outsV, nth, setV, List.take_succ_cons, List.take_zero, List.length_cons, List.length_nil, Nat.zero_add, Nat.reduceAdd] <;> rfl) ?_ | refine w_rf rfl (by assumption) (by rfl) (by rfl) (by rfl) ?_ | refine w_opk rfl rfl ?_)
    refine w_iadrS rfl rfl r1 hj1 ?_
    refine w_loadA rfl hA1 rfl ?_
    repeat' (first | refine w_rf rfl (by assumption) (by rfl) (by rfl) (by rfl) ?_ | refine w_opk rfl rfl ?_)
    refine w_iadrS rfl rfl r4 (by simpa using hj3) ?_
    refine w_loadA rfl hB1 rfl ?_
    refine w_neqD rfl rfl (neq_spec code[j] code'[j]) (fun hc => ?_) (fun hc => ?_)
    · repeat' (first | refine w_seq ?_ | refine w_reg ?_ | refine w_end (by simp only [outsV, nth, setV, List.take_succ_cons, List.take_zero, List.length_cons, List.length_nil, Nat.zero_add, Nat.reduceAdd] <;> rfl) ?_ | refine w_opk rfl rfl ?_ | refine w_cond_t rfl ?_ | refine w_ret ?_ | refine w_rt rfl ?_)
      exact ⟨⟨false, rfl, by simp; rintro rfl; exact absurd rfl hc⟩, E2⟩
    · repeat' (first | refine w_reg ?_ | refine w_end (by simp only [outsV, nth, setV, List.take_succ_cons, List.take_zero, List.length_cons, List.length_nil, Nat.zero_add, Nat.reduceAdd] <;> rfl) ?_ | refine w_addN rfl rfl (by omega) ?_ | refine w_opk rfl rfl ?_ | refine w_cond_f rfl ?_ | refine w_skip ?_)
      exact ⟨hj1, rfl, take_eq hj2 hj3 he hc, _, _, _, rfl⟩
  have hj1 : (code.map specC).length ≤ j := by assumption
  simp only [map_len] at hj1
  rw [List.take_of_length_le hj1, List.take_of_length_le (by omega)] at he
  subst he
  clear hj hj1 lc
  skip
  refine w_count (fun j vs h => Ext h2 h ∧ exits.take j = exits'.take j ∧ ∃ b6 b7 b8 b9 b10 b13 b14 b15 b16 b17 b18 b19 b20 b21 b22, vs = [.agg [.int .i64 fn, .int .i64 regs, vc, ve, vn], .agg [.int .i64 fn, .int .i64 regs, wc, we, wn], .bool false, .ptr iA 0 0 5, .ptr iB 0 0 5, .bool false, b6, b7, b8, b9, b10, .int .i64 (.ofNat j), .int .i64 (.ofNat le.length), b13, b14, b15, b16, b17, b18, b19, b20, b21, b22, .any, .any, .any, .any, .any]) le.length ⟨ExtX.refl _ _, rfl, _, _, _, _, _, _, _, _, _, _, _, _, _, _, _, rfl⟩ ?_
  rintro j vs h hj ⟨hE, he, b6, b7, b8, b9, b10, b13, b14, b15, b16, b17, b18, b19, b20, b21, b22, rfl⟩
  have hA' := hA.ext0 hE
  have hB' := hB.ext0 hE
  have r2' := r2.ext0 hE
  have r5' := r5.ext0 hE
  repeat' (first | refine w_seq ?_ | refine w_reg ?_ | refine w_end (by simp only [outsV, nth, setV, List.take_succ_cons, List.take_zero, List.length_cons, List.length_nil, Nat.zero_add, Nat.reduceAdd] <;> rfl) ?_ | refine w_rf rfl (by assumption) (by rfl) (by rfl) (by rfl) ?_ | refine w_lssN rfl rfl (fun hc => ?_) (fun hc => ?_) | refine w_cond_t rfl ?_ | refine w_cond_f rfl ?_ | refine w_skip ?_ | refine w_exit rfl ?_)
  · have hj1 : j < le.length := by assumption
    have hj1' : j < me.length := by omega
    have hj2 : j < exits.length := by omega
    have hj3 : j < exits'.length := by omega
    have kE := (ke.get hj1 hj2).ext0 hE
    have kE' := (le'.get hj1' hj3).ext0 hE
    have hxl := hex _ (List.getElem_mem hj2)
    have hA1 := slot_at r2' hj1
    have hB1 := slot_at r5' hj1'
    have fin : ∀ {e}, exits[j] = e → exits'[j] ≠ e → ∃ r, V.bool false = .bool r ∧ (r = true ↔ (fn, regs, code, exits, needs) = (fn, regs, code, exits', needs')) := fun e1 e2 =>
      ⟨false, rfl, by simp; rintro rfl; exact absurd e1 e2⟩
    have fin2 : exits[j] = exits'[j] → exits.take (j + 1) = exits'.take (j + 1) := take_eq hj2 hj3 he
    generalize hXe : exits[j] = X at *
    generalize hYe : exits'[j] = Y at *
    obtain ⟨ev, lc, eel, rev, kb⟩ := kE
    obtain ⟨wv, mc, ewl, rwv, kb'⟩ := kE'
    rw [eel] at hA1
    rw [ewl] at hB1
    have q1 := rev.1
    have q2 := rwv.1
    have kbl := kb.1
    have kbl' := kb'.1
    have hXl : X.length ≤ 4000000000 := by
      have := encL_ge wBack_ge X
      simp only [wExit, List.length_append] at hxl
      omega
    refine w_block ?_
    repeat' (first | refine w_seq ?_ | refine w_reg ?_ | refine w_end (by simp only [outsV, nth, setV, List.take_succ_cons, List.take_zero, List.length_cons, List.length_nil, Nat.zero_add, Nat.reduceAdd] <;> rfl) ?_ | refine w_rf rfl (by assumption) (by rfl) (by rfl) (by rfl) ?_ | refine w_opk rfl rfl ?_)
    refine w_iadrS rfl rfl r2' hj1 ?_
    refine w_load1 (c := []) rfl hA1 rfl ?_
    repeat' (first | refine w_rf rfl (by assumption) (by rfl) (by rfl) (by rfl) ?_ | refine w_len rfl (by assumption) ?_ | refine w_opk rfl rfl ?_)
    refine w_iadrS rfl rfl r5' hj1' ?_
    refine w_load1 (c := []) rfl hB1 rfl ?_
    repeat' (first | refine w_seq ?_ | refine w_reg ?_ | refine w_end (by simp only [outsV, nth, setV, List.take_succ_cons, List.take_zero, List.length_cons, List.length_nil, Nat.zero_add, Nat.reduceAdd] <;> rfl) ?_ | refine w_rf rfl (by assumption) (by rfl) (by rfl) (by rfl) ?_ | refine w_len rfl (by assumption) ?_ | refine w_neqN rfl rfl (fun hc => ?_) (fun hc => ?_) | refine w_opk rfl rfl ?_ | refine w_cond_t rfl ?_ | refine w_cond_f rfl ?_ | refine w_skip ?_ | refine w_ret ?_ | refine w_rt rfl ?_)
    · have hc : lc.length ≠ mc.length := by assumption
      exact ⟨fin rfl (by rintro rfl; exact hc (by omega)), E2.trans hE⟩
    have hlm : lc.length = mc.length := by assumption
    refine w_iadrS rfl rfl r2' hj1 ?_
    refine w_load1 (c := []) rfl hA1 rfl ?_
    repeat' (first | refine w_end (by simp only [outsV, nth, setV, List.take_succ_cons, List.take_zero, List.length_cons, List.length_nil, Nat.zero_add, Nat.reduceAdd] <;> rfl) ?_ | refine w_len rfl (by assumption) ?_ | refine w_opk rfl rfl ?_)
    refine w_count (fun k vs h' => Ext h h' ∧ X.take k = Y.take k ∧ ∃ b18 b19 b20 b21 b22, vs = [.agg [.int .i64 fn, .int .i64 regs, vc, ve, vn], .agg [.int .i64 fn, .int .i64 regs, wc, we, wn], .bool false, .ptr iA 0 0 5, .ptr iB 0 0 5, .bool false, b6, b7, b8, b9, b10, .int .i64 (.ofNat j), .int .i64 (.ofNat le.length), .bool true, .int .i64 (.ofNat j), .bool false, .int .i64 (.ofNat k), .int .i64 (.ofNat lc.length), b18, b19, b20, b21, b22, .any, .any, .any, .any, .any]) lc.length ⟨ExtX.refl _ _, rfl, _, _, _, _, _, rfl⟩ ?_
    rintro k vs h' hk ⟨hE', he', b18', b19', b20', b21', b22', rfl⟩
    have hEE := hE.trans hE'
    have hA2 := hA'.ext0 hE'
    have hB2 := hB'.ext0 hE'
    have r2'' := r2'.ext0 hE'
    have r5'' := r5'.ext0 hE'
    have q1' := q1.ext0 hE'
    have q2' := q2.ext0 hE'
    repeat' (first | refine w_seq ?_ | refine w_reg ?_ | refine w_end (by simp only [outsV, nth, setV, List.take_succ_cons, List.take_zero, List.length_cons, List.length_nil, Nat.zero_add, Nat.reduceAdd] <;> rfl) ?_ | refine w_lssN rfl rfl (fun hc => ?_) (fun hc => ?_) | refine w_addN rfl rfl (by omega) ?_ | refine w_opk rfl rfl ?_ | refine w_cond_t rfl ?_ | refine w_cond_f rfl ?_ | refine w_skip ?_ | refine w_exit rfl ?_)
    · have hk1 : k < lc.length := by assumption
      have hk1' : k < mc.length := by omega
      have hk2 : k < X.length := by omega
      have hk3 : k < Y.length := by omega
      have kB := (kb.get hk1 hk2).ext0 hE'
      have kB' := (kb'.get hk1' hk3).ext0 hE'
      have hbl := encL_split wBack X hk2
      have fin3 : X[k] = Y[k] → X.take (k + 1) = Y.take (k + 1) := take_eq hk2 hk3 he'
      have fin4 : X[k] ≠ Y[k] → X ≠ Y := by rintro h rfl; exact h rfl
      have hA3 := slot_at r2'' hj1
      have hB3 := slot_at r5'' hj1'
      rw [eel] at hA3
      rw [ewl] at hB3
      have hS1 := slot_at q1' hk1
      have hS2 := slot_at q2' hk1'
      generalize X[k] = B at *
      generalize Y[k] = B' at *
      have sB := kB.shape
      have sB' := kB'.shape
      obtain ⟨vv, vs, eB, rvv, rvs⟩ := kB
      obtain ⟨wv2, ws, eB', rwv2, rws⟩ := kB'
      rw [eB] at hS1 sB
      rw [eB'] at hS2 sB'
      obtain ⟨bf, ba, bvs, bst⟩ := B
      obtain ⟨bf', ba', bvs', bst'⟩ := B'
      simp only at hS1 hS2 sB sB' rvv rvs rwv2 rws
      have hvl : bvs.length ≤ 4294967296 := by
        have := encL_ge encI_ge bvs
        simp only [wExit, wBack, List.length_append] at hbl hxl
        omega
      have hsl : bst.length ≤ 4294967296 := by
        have := encL_ge encI_ge bst
        simp only [wExit, wBack, List.length_append] at hbl hxl
        omega
      have hfin : (bf, ba, bvs, bst) ≠ (bf', ba', bvs', bst') → ∃ r, V.bool false = .bool r ∧ (r = true ↔ (fn, regs, code, exits, needs) = (fn, regs, code, exits', needs')) := fun h => fin rfl (fun e => fin4 h e.symm)
      refine w_block ?_
      repeat' (first | refine w_seq ?_ | refine w_reg ?_ | refine w_end (by simp only [outsV, nth, setV, List.take_succ_cons, List.take_zero, List.length_cons, List.length_nil, Nat.zero_add, Nat.reduceAdd] <;> rfl) ?_ | refine w_rf rfl (by assumption) (by rfl) (by rfl) (by rfl) ?_ | refine w_opk rfl rfl ?_)
      refine w_iadrS rfl rfl r2'' hj1 ?_
      refine w_load1 (c := []) rfl hA3 rfl ?_
      repeat' (first | refine w_opk rfl rfl ?_)
      refine w_iadrS rfl rfl q1' hk1 ?_
      refine w_loadA rfl hS1 rfl ?_
      repeat' (first | refine w_rf rfl (by assumption) (by rfl) (by rfl) (by rfl) ?_ | refine w_opk rfl rfl ?_)
      refine w_iadrS rfl rfl r5'' hj1' ?_
      refine w_load1 (c := []) rfl hB3 rfl ?_
      repeat' (first | refine w_opk rfl rfl ?_)
      refine w_iadrS rfl rfl q2' hk1' ?_
      refine w_loadA rfl hS2 rfl ?_
      refine w_alloc fun ix h5 hx hix hE3 => ?_
      refine w_alloc fun iy h6 hy hiy hE4 => ?_
      have hixl := hx.1
      have m1 := hE3.1
      have m2 := hE4.1
      have m3 := hEE.1
      replace hx := hx.ext0 hE4
      have hAl := hA2.1
      have hBl := hB2.1
      refine w_store rfl rfl hx rfl sB.2 (by decide) (by simp) fun h7 hx5 hE5 hn5 => ?_
      replace hx5 : Own h7 ix [.int .i64 bf, .int .i64 ba, vv, vs] := hx5
      have hF5 : Ext h' h7 := (hE3.trans hE4).step hE5 fun jd hjd => by simp at hjd; exact .inr (by omega)
      have hS25 := slot_at (q2'.ext0 hF5) hk1'
      rw [eB'] at hS25
      simp only at hS25
      have hB35 := slot_at (r5''.ext0 hF5) hj1'
      rw [ewl] at hB35
      have hB5 := (hB2.ext0 hF5).at rfl
      have hB53 := hB5.fadr (d := 3) (by simp)
      refine w_chkA rfl rfl hS25 (by simp) (V.beqL_refl _) ?_
      refine w_chk1 rfl rfl hB35 (V.beq_refl _) ?_
      refine w_chk1 (p := .ptr iB (0 + 3) 0 5) rfl rfl hB53 (V.beq_refl _) ?_
      have hy5 := hy.ext hE5 (by simp; omega)
      refine w_store rfl rfl hy5 rfl sB'.2 (by decide) (by simp) fun h8 hy6 hE6 hn6 => ?_
      replace hy6 : Own h8 iy [.int .i64 bf', .int .i64 ba', wv2, ws] := hy6
      have hx6 := hx5.ext hE6 (by simp; omega)
      have hF6 : Ext h' h8 := hF5.step hE6 fun jd hjd => by simp at hjd; exact .inr (by omega)
      have g1 := rvv.1.ext0 hF6
      have g2 := rvs.1.ext0 hF6
      have g3 := rwv2.1.ext0 hF6
      have g4 := rws.1.ext0 hF6
      have hEF := hEE.trans hF6
      clear hx hy hE5 hE6 hE3 hE4 hA3 hB3 hS1 hS2 hS25 hB35 hB5 hB53 hx5 hy5 hA2 hB2 hF5 r2'' r5'' q1' q2'
      repeat' (first | refine w_seq ?_ | refine w_reg ?_ | refine w_end (by simp only [outsV, nth, setV, List.take_succ_cons, List.take_zero, List.length_cons, List.length_nil, Nat.zero_add, Nat.reduceAdd] <;> rfl) ?_ | refine w_off rfl ?_ | refine w_rf rfl (by assumption) (by rfl) (by rfl) (by rfl) ?_ | refine w_rfg rfl rfl (by assumption) (by rfl) (by rfl) (by rfl) (by rfl) ?_ | refine w_on rfl ?_ | refine w_neq rfl rfl (fun hc => ?_) (fun hc => ?_) | refine w_opk rfl rfl ?_ | refine w_cond_t rfl ?_ | refine w_ret ?_ | refine w_rt rfl ?_)
      · have hc : bf ≠ bf' := by assumption
        exact ⟨hfin (by simp; intro e; exact absurd e hc), E2.trans hEF⟩
      · have hc : ba ≠ ba' := by assumption
        exact ⟨hfin (by simp; intro _ e; exact absurd e hc), E2.trans hEF⟩
      refine w_call rfl ((sameInts_ok hO g1 g3 hvl).mono fun _ h9 ⟨⟨r, e1, e2⟩, e3⟩ => ?_)
      subst e1 e3
      cases r with
      | false =>
        have hc : bvs ≠ bvs' := fun e => by have := e2.2 e; cases this
        repeat' (first | refine w_seq ?_ | refine w_reg ?_ | refine w_end (by simp only [outsV, nth, setV, List.take_succ_cons, List.take_zero, List.length_cons, List.length_nil, Nat.zero_add, Nat.reduceAdd] <;> rfl) ?_ | refine w_off rfl ?_ | refine w_on rfl ?_ | refine w_opk rfl rfl ?_ | refine w_cond_t rfl ?_ | refine w_ret ?_ | refine w_rt rfl ?_)
        exact ⟨hfin (by simp; intro _ _ e; exact absurd e hc), E2.trans hEF⟩
      | true =>
        have hv := e2.1 rfl
        repeat' (first | refine w_rfg rfl rfl (by assumption) (by rfl) (by rfl) (by rfl) (by rfl) ?_ | refine w_on rfl ?_ | refine w_opk rfl rfl ?_)
        refine w_call rfl ((sameInts_ok hO g2 g4 hsl).mono fun _ h10 ⟨⟨r, e1, e4⟩, e3⟩ => ?_)
        subst e1 e3
        cases r with
        | false =>
          have hc : bst ≠ bst' := fun e => by have := e4.2 e; cases this
          repeat' (first | refine w_seq ?_ | refine w_reg ?_ | refine w_end (by simp only [outsV, nth, setV, List.take_succ_cons, List.take_zero, List.length_cons, List.length_nil, Nat.zero_add, Nat.reduceAdd] <;> rfl) ?_ | refine w_on rfl ?_ | refine w_opk rfl rfl ?_ | refine w_cond_t rfl ?_ | refine w_ret ?_ | refine w_rt rfl ?_)
          exact ⟨hfin (by simp; intro _ _ _ e; exact absurd e hc), E2.trans hEF⟩
        | true =>
          have hs := e4.1 rfl
          have hf1 : bf = bf' := by assumption
          have hf2 : ba = ba' := by assumption
          repeat' (first | refine w_reg ?_ | refine w_end (by simp only [outsV, nth, setV, List.take_succ_cons, List.take_zero, List.length_cons, List.length_nil, Nat.zero_add, Nat.reduceAdd] <;> rfl) ?_ | refine w_on rfl ?_ | refine w_addN rfl rfl (by omega) ?_ | refine w_opk rfl rfl ?_ | refine w_cond_f rfl ?_ | refine w_skip ?_)
          exact ⟨hk1, hE'.trans hF6, fin3 (by rw [hf1, hf2, hv, hs]), _, _, _, _, _, rfl⟩
    · have hk1 : lc.length ≤ k := by assumption
      rw [List.take_of_length_le (by omega), List.take_of_length_le (by omega)] at he'
      skip
      exact ⟨hj1, hEE, fin2 he', _, _, _, _, _, _, _, _, _, _, _, _, _, _, _, rfl⟩
  have hj1 : le.length ≤ j := by assumption
  rw [List.take_of_length_le (by omega), List.take_of_length_le (by omega)] at he
  subst he
  have r3' := r3.ext0 hE
  have r6' := r6.ext0 hE
  repeat' (first | refine w_end (by simp only [outsV, nth, setV, List.take_succ_cons, List.take_zero, List.length_cons, List.length_nil, Nat.zero_add, Nat.reduceAdd] <;> rfl) ?_ | refine w_len rfl (by assumption) ?_ | refine w_opk rfl rfl ?_)
  refine w_count (fun j vs h' => h' = h ∧ needs.take j = needs'.take j ∧ ∃ b6 b7 b8 b9 b10 b11 b12 b13 b14 b15 b16 b17 b18 b19 b20 b21 b22 b25 b26 b27, vs = [.agg [.int .i64 fn, .int .i64 regs, vc, ve, vn], .agg [.int .i64 fn, .int .i64 regs, wc, we, wn], .bool false, .ptr iA 0 0 5, .ptr iB 0 0 5, .bool false, b6, b7, b8, b9, b10, b11, b12, b13, b14, b15, b16, b17, b18, b19, b20, b21, b22, .int .i64 (.ofNat j), .int .i64 (.ofNat (needs.map needC).length), b25, b26, b27]) (needs.map needC).length ⟨rfl, rfl, _, _, _, _, _, _, _, _, _, _, _, _, _, _, _, _, _, _, _, _, rfl⟩ ?_
  clear hj hj1
  rintro j vs h hj ⟨rfl, he, b6, b7, b8, b9, b10, b11, b12, b13, b14, b15, b16, b17, b18, b19, b20, b21, b22, b25, b26, b27, rfl⟩
  repeat' (first | refine w_seq ?_ | refine w_reg ?_ | refine w_end (by simp only [outsV, nth, setV, List.take_succ_cons, List.take_zero, List.length_cons, List.length_nil, Nat.zero_add, Nat.reduceAdd] <;> rfl) ?_ | refine w_lssN rfl rfl (fun hc => ?_) (fun hc => ?_) | refine w_opk rfl rfl ?_ | refine w_cond_t rfl ?_ | refine w_cond_f rfl ?_ | refine w_skip ?_ | refine w_exit rfl ?_ | refine w_ret ?_ | refine w_rt rfl ?_)
  · have hj1 : j < (needs.map needC).length := by assumption
    have hj2 : j < needs.length := by simpa using hj1
    have hj3 : j < needs'.length := by omega
    have hA1 := slot_at r3' hj1
    have hB1 := slot_at (j := j) r6' (by simpa using hj3)
    rw [List.getElem_map] at hA1 hB1
    refine w_block ?_
    repeat' (first | refine w_seq ?_ | refine w_reg ?_ | refine w_end (by simp only [outsV, nth, setV, List.take_succ_cons, List.take_zero, List.length_cons, List.length_nil, Nat.zero_add, Nat.reduceAdd] <;> rfl) ?_ | refine w_rf rfl (by assumption) (by rfl) (by rfl) (by rfl) ?_ | refine w_opk rfl rfl ?_)
    refine w_iadrS rfl rfl r3' hj1 ?_
    refine w_loadA rfl hA1 rfl ?_
    repeat' (first | refine w_rf rfl (by assumption) (by rfl) (by rfl) (by rfl) ?_ | refine w_opk rfl rfl ?_)
    refine w_iadrS rfl rfl r6' (by simpa using hj3) ?_
    refine w_loadA rfl hB1 rfl ?_
    refine w_neqD rfl rfl (neq_need needs[j] needs'[j]) (fun hc => ?_) (fun hc => ?_)
    · repeat' (first | refine w_seq ?_ | refine w_reg ?_ | refine w_end (by simp only [outsV, nth, setV, List.take_succ_cons, List.take_zero, List.length_cons, List.length_nil, Nat.zero_add, Nat.reduceAdd] <;> rfl) ?_ | refine w_opk rfl rfl ?_ | refine w_cond_t rfl ?_ | refine w_ret ?_ | refine w_rt rfl ?_)
      exact ⟨⟨false, rfl, by simp; rintro rfl; exact absurd rfl hc⟩, E2.trans hE⟩
    · repeat' (first | refine w_reg ?_ | refine w_end (by simp only [outsV, nth, setV, List.take_succ_cons, List.take_zero, List.length_cons, List.length_nil, Nat.zero_add, Nat.reduceAdd] <;> rfl) ?_ | refine w_addN rfl rfl (by omega) ?_ | refine w_opk rfl rfl ?_ | refine w_cond_f rfl ?_ | refine w_skip ?_)
      exact ⟨hj1, rfl, take_eq hj2 hj3 he hc, _, _, _, _, _, _, _, _, _, _, _, _, _, _, _, _, _, _, _, _, rfl⟩
  have hj1 : (needs.map needC).length ≤ j := by assumption
  simp only [map_len] at hj1
  rw [List.take_of_length_le hj1, List.take_of_length_le (by omega)] at he
  subst he
  exact ⟨⟨true, rfl, by simp⟩, E2.trans hE⟩
end AmT
