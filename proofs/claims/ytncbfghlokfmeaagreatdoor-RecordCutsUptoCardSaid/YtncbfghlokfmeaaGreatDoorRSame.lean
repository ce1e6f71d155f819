/-
  Which records are the same. Conditions: what they hold may be written.
-/
import Derived.Test.YtncbfghlokfmeaaGreatDoorVCmp
namespace AmT
open Go Am
set_option maxRecDepth 100000
set_option maxHeartbeats 8000000
set_option linter.unusedSimpArgs false
set_option linter.unusedVariables false
variable {O : CallF}

structure OffRS (O : CallF) : Prop extends OffVals O where
  se : ∀ a h, O 14 a h = none
  sm18 : ∀ a h, O 58 a h = none
  sm19 : ∀ a h, O 24 a h = none

theorem same02r_ok (hO : OffRS O) {Z Z' : Nat → Prop} {a b : Val} {c d : List V} {h0 : Heap} (ha : VaR Z h0 a c) (hb : VaR Z' h0 b d) (ka : cVal.ok a) (kb : cVal.ok b) : WPc tab.get O 39 [.agg c, .agg d] h0 (fun v h' => (∃ r, v = .bool r ∧ (r = true ↔ a = b)) ∧ Ext h0 h') := by
  refine w_fn' (hO.sm _ _) rfl rfl (by simp only [c39, initV, nth] <;> rfl) ?_
  have sa := ha.shape
  have sb := hb.shape
  refine w_seq (w_reg (w_box rfl sa.1 sa.2 fun iA h1 hA hiA hE1 => ?_))
  refine w_box rfl sb.1 sb.2 fun iB h2 hB hiB hE2 => ?_
  have E2 := hE1.trans hE2
  replace hA : Own h2 iA c := hA.ext0 hE2
  replace hB : Own h2 iB d := hB
  repeat' (first | refine w_seq ?_ | refine w_reg ?_ | refine w_e ?_ | refine w_opk rfl rfl ?_)
  refine w_loadA rfl (hA.at sa.1) (by rw [sa.1]; rfl) ?_
  refine w_loadA rfl (hB.at sb.1) (by rw [sb.1]; rfl) ?_
  rw [show List.take 4 c = c from List.take_of_length_le (by omega), show List.take 4 d = d from List.take_of_length_le (by omega)]
  refine w_callA [.agg c, .agg d] rfl ?_
  refine WPc.mono (Q := fun v h' => (∃ x : Int, v = .int .i64 x ∧ (x = 0 ↔ a = b)) ∧ Ext h2 h') ?_ fun v' h5 ⟨⟨x, e1, ex⟩, e2⟩ => ?_
  · refine w_fn' (hO.cmp2 _ _) rfl rfl (by simp only [c87, initV, nth] <;> rfl) ?_
    refine w_seq (w_reg (w_box rfl sa.1 sa.2 fun iC h3 hC hiC hE3 => ?_))
    refine w_box rfl sb.1 sb.2 fun iD h4 hD hiD hE4 => ?_
    replace hC : Own h4 iC c := hC.ext0 hE4
    replace hD : Own h4 iD d := hD
    have E4 := hE3.trans hE4
    repeat' (first | refine w_seq ?_ | refine w_reg ?_ | refine w_e ?_ | refine w_opk rfl rfl ?_)
    refine w_loadA rfl (hC.at sa.1) (by rw [sa.1]; rfl) ?_
    refine w_loadA rfl (hD.at sb.1) (by rw [sb.1]; rfl) ?_
    rw [show List.take 4 c = c from List.take_of_length_le (by omega), show List.take 4 d = d from List.take_of_length_le (by omega)]
    refine w_callA [.agg c, .agg d, .int .i64 (.ofNat 16)] rfl ((cmp_ok hO.toOffVals (sizeOf a + 1) a b (by omega) ((ha.ext0 E2).ext0 E4) ((hb.ext0 E2).ext0 E4) ka.1 kb.1 ka.2 kb.2 (by omega)).mono fun v' h5 ⟨⟨x, e1, ex⟩, e2⟩ => ?_)
    subst e1
    repeat' (first | refine w_e ?_ | refine w_opk rfl rfl ?_ | refine w_ret ?_ | refine w_rt rfl ?_)
    exact ⟨⟨x, rfl, ex⟩, E4.trans e2⟩
  · subst e1
    repeat' (first | refine w_e ?_ | refine w_eql rfl rfl (fun hc => ?_) (fun hc => ?_) | refine w_opk rfl rfl ?_ | refine w_ret ?_ | refine w_rt rfl ?_)
    · exact ⟨⟨true, rfl, fun _ => ex.1 (by assumption), fun _ => rfl⟩, E2.trans e2⟩
    · have hx : x ≠ 0 := by assumption
      exact ⟨⟨false, rfl, (fun e => by cases e), fun e => absurd (ex.2 e) hx⟩, E2.trans e2⟩

theorem sameVals_ok (hO : OffRS O) {Z Z' : Nat → Prop} {h0 : Heap} {v w : V} {lc ld : List (List V)} {l m : List Val} (hv : RSz Z h0 4 v lc) (hl : VasR Z h0 l lc) (hw : RSz Z' h0 4 w ld) (hm : VasR Z' h0 m ld) (kl : cVals.ok l) (km : cVals.ok m) : WPc tab.get O 13 [v, w] h0 (fun v h' => (∃ r, v = .bool r ∧ (r = true ↔ l = m)) ∧ Ext h0 h') := by
  refine w_fn' (hO.sv _ _) rfl rfl (by simp only [c13, initV, nth] <;> rfl) ?_
  have r1 := hv.1
  have r2 := hw.1
  have n1 := hl.len
  have n2 := hm.len
  have kl1 := kl.1
  have km1 := km.1
  repeat' (first | refine w_seq ?_ | refine w_reg ?_ | refine w_e ?_ | refine w_len rfl (by assumption) ?_ | refine w_neqN rfl rfl (fun hc => ?_) (fun hc => ?_) | refine w_opk rfl rfl ?_ | refine w_cond_t rfl ?_ | refine w_cond_f rfl ?_ | refine w_skip ?_ | refine w_ret ?_ | refine w_rt rfl ?_)
  · have hne : lc.length ≠ ld.length := by assumption
    exact ⟨⟨false, rfl, (fun e => by cases e), fun e => by rw [e] at n1; omega⟩, ExtX.refl _ _⟩
  have hll : l.length = m.length := by
    have : lc.length = ld.length := by assumption
    omega
  refine w_count (fun j vs h => Ext h0 h ∧ l.take j = m.take j ∧ ∃ b3 b6 b7 b8, vs = [v, w, .bool false, b3, .int .i64 (.ofNat j), .int .i64 (.ofNat lc.length), b6, b7, b8]) lc.length ⟨ExtX.refl _ _, by simp, _, _, _, _, rfl⟩ ?_
  rintro j vs h hj ⟨hE, htk, b3, b6, b7, b8, rfl⟩
  have r1' := r1.ext0 hE
  have r2' := r2.ext0 hE
  repeat' (first | refine w_seq ?_ | refine w_reg ?_ | refine w_e ?_ | refine w_lssN rfl rfl (fun hc => ?_) (fun hc => ?_) | refine w_opk rfl rfl ?_ | refine w_cond_t rfl ?_ | refine w_cond_f rfl ?_ | refine w_skip ?_ | refine w_exit rfl ?_ | refine w_ret ?_ | refine w_rt rfl ?_)
  · have hj1 : j < lc.length := by assumption
    have hj2 : j < l.length := by omega
    have hj3 : j < m.length := by omega
    have hj4 : j < ld.length := by omega
    have ka := (hl.get hj2 hj1).ext0 hE
    have kb := (hm.get hj3 hj4).ext0 hE
    have s1 := ka.shape
    have s2 := kb.shape
    refine w_block ?_
    repeat' (first | refine w_seq ?_ | refine w_reg ?_ | refine w_e ?_ | refine w_opk rfl rfl ?_)
    refine w_iadrS rfl rfl r1' hj1 ?_
    refine w_loadA rfl (slot_at r1' hj1) (by rw [s1.1]; rfl) ?_
    repeat' (first | refine w_opk rfl rfl ?_)
    refine w_iadrS rfl rfl r2' hj4 ?_
    refine w_loadA rfl (slot_at r2' hj4) (by rw [s2.1]; rfl) ?_
    rw [show List.take 4 lc[j] = lc[j] from List.take_of_length_le (by omega), show List.take 4 ld[j] = ld[j] from List.take_of_length_le (by omega)]
    refine w_call rfl ((same02r_ok hO ka kb (kl.2 _ (List.getElem_mem hj2)) (km.2 _ (List.getElem_mem hj3))).mono fun _ h5 ⟨⟨r, e1, er⟩, e2⟩ => ?_)
    subst e1
    cases r with
    | true =>
      repeat' (first | refine w_reg ?_ | refine w_e ?_ | refine w_addN rfl rfl (by omega) ?_ | refine w_opk rfl rfl ?_ | refine w_cond_f rfl ?_ | refine w_skip ?_)
      exact ⟨hj1, hE.trans e2, take_succ_eq htk hj2 hj3 (er.1 rfl), _, _, _, _, rfl⟩
    | false =>
      repeat' (first | refine w_seq ?_ | refine w_reg ?_ | refine w_e ?_ | refine w_opk rfl rfl ?_ | refine w_cond_t rfl ?_ | refine w_ret ?_ | refine w_rt rfl ?_)
      exact ⟨⟨false, rfl, (fun e => by cases e), fun e => absurd (er.2 (get_of_eq e hj2 hj3)) (by decide)⟩, hE.trans e2⟩
  · have hj1 : lc.length ≤ j := by assumption
    rw [List.take_of_length_le (by omega), List.take_of_length_le (by omega)] at htk
    exact ⟨⟨true, rfl, fun _ => htk, fun _ => rfl⟩, hE⟩

theorem sameEffs_ok (hO : OffRS O) {Z Z' : Nat → Prop} {h0 : Heap} {v w : V} {lc ld : List (List V)} {l m : List EffT} (hv : RSz Z h0 4 v lc) (hl : All2 (EffZ Z h0) lc l) (hw : RSz Z' h0 4 w ld) (hm : All2 (EffZ Z' h0) ld m) (kl : l.length ≤ 1000 ∧ ∀ e ∈ l, cEff.ok e) (km : m.length ≤ 1000 ∧ ∀ e ∈ m, cEff.ok e) : WPc tab.get O 14 [v, w] h0 (fun v h' => (∃ r, v = .bool r ∧ (r = true ↔ l = m)) ∧ Ext h0 h') := by
  refine w_fn' (hO.se _ _) rfl rfl (by simp only [c14, initV, nth] <;> rfl) ?_
  have r1 := hv.1
  have r2 := hw.1
  have n1 := hl.1
  have n2 := hm.1
  have kl1 := kl.1
  have km1 := km.1
  repeat' (first | refine w_seq ?_ | refine w_reg ?_ | refine w_e ?_ | refine w_len rfl (by assumption) ?_ | refine w_neqN rfl rfl (fun hc => ?_) (fun hc => ?_) | refine w_opk rfl rfl ?_ | refine w_cond_t rfl ?_ | refine w_cond_f rfl ?_ | refine w_skip ?_ | refine w_ret ?_ | refine w_rt rfl ?_)
  · have hne : lc.length ≠ ld.length := by assumption
    exact ⟨⟨false, rfl, (fun e => by cases e), fun e => by rw [e] at n1; omega⟩, ExtX.refl _ _⟩
  have hll : l.length = m.length := by
    have : lc.length = ld.length := by assumption
    omega
  refine w_count (fun j vs h => Ext h0 h ∧ l.take j = m.take j ∧ ∃ b3 b6 b7 b8, vs = [v, w, .bool false, b3, .int .i64 (.ofNat j), .int .i64 (.ofNat lc.length), b6, b7, b8]) lc.length ⟨ExtX.refl _ _, by simp, _, _, _, _, rfl⟩ ?_
  rintro j vs h hj ⟨hE, htk, b3, b6, b7, b8, rfl⟩
  have r1' := r1.ext0 hE
  have r2' := r2.ext0 hE
  repeat' (first | refine w_seq ?_ | refine w_reg ?_ | refine w_e ?_ | refine w_lssN rfl rfl (fun hc => ?_) (fun hc => ?_) | refine w_opk rfl rfl ?_ | refine w_cond_t rfl ?_ | refine w_cond_f rfl ?_ | refine w_skip ?_ | refine w_exit rfl ?_ | refine w_ret ?_ | refine w_rt rfl ?_)
  · have hj1 : j < lc.length := by assumption
    have hj2 : j < l.length := by omega
    have hj3 : j < m.length := by omega
    have hj4 : j < ld.length := by omega
    have ka := (hl.get hj1 hj2).ext hE (S := []) (by simp)
    have kb := (hm.get hj4 hj3).ext hE (S := []) (by simp)
    have qa := kl.2 _ (List.getElem_mem hj2)
    have qb := km.2 _ (List.getElem_mem hj3)
    have hsa := slot_at r1' hj1
    have hsb := slot_at r2' hj4
    have hno : l = m → l[j] = m[j] := fun e => get_of_eq e hj2 hj3
    have hyes : l[j] = m[j] → l.take (j + 1) = m.take (j + 1) := fun e => take_succ_eq htk hj2 hj3 e
    generalize l[j] = a at *
    generalize m[j] = b at *
    obtain ⟨a1, a2, a3, a4⟩ := a
    obtain ⟨b1, b2, b3', b4⟩ := b
    obtain ⟨v1, lc1, e1, w1, x1⟩ := ka
    obtain ⟨v2, lc2, e2, w2, x2⟩ := kb
    simp only at e1 e2 x1 x2
    rw [e1] at hsa
    rw [e2] at hsb
    refine w_block ?_
    repeat' (first | refine w_seq ?_ | refine w_reg ?_ | refine w_e ?_ | refine w_opk rfl rfl ?_)
    refine w_iadrS rfl rfl r1' hj1 ?_
    refine w_fadr rfl hsa rfl fun hs => ?_
    refine w_load1 rfl hs rfl ?_
    repeat' (first | refine w_opk rfl rfl ?_)
    refine w_iadrS rfl rfl r2' hj4 ?_
    refine w_fadr rfl hsb rfl fun hs => ?_
    refine w_load1 rfl hs rfl ?_
    repeat' (first | refine w_seq ?_ | refine w_reg ?_ | refine w_e ?_ | refine w_off rfl ?_ | refine w_on rfl ?_ | refine w_neq rfl rfl (fun hc => ?_) (fun hc => ?_) | refine w_opk rfl rfl ?_ | refine w_cond_t rfl ?_ | refine w_ret ?_ | refine w_rt rfl ?_)
    · have hne : a1 ≠ b1 := by assumption
      exact ⟨⟨false, rfl, (fun e => by cases e), fun e => by have := hno e; simp only [Prod.mk.injEq] at this; exact absurd this.1 hne⟩, hE⟩
    have q1 : a1 = b1 := by assumption
    refine w_iadrS rfl rfl r1' hj1 ?_
    refine w_on rfl (w_fadr rfl hsa rfl fun hs => ?_)
    refine w_on rfl (w_load1 rfl hs rfl ?_)
    repeat' (first | refine w_on rfl ?_ | refine w_opk rfl rfl ?_)
    refine w_iadrS rfl rfl r2' hj4 ?_
    refine w_on rfl (w_fadr rfl hsb rfl fun hs => ?_)
    refine w_on rfl (w_load1 rfl hs rfl ?_)
    repeat' (first | refine w_seq ?_ | refine w_reg ?_ | refine w_e ?_ | refine w_off rfl ?_ | refine w_on rfl ?_ | refine w_neq rfl rfl (fun hc => ?_) (fun hc => ?_) | refine w_opk rfl rfl ?_ | refine w_cond_t rfl ?_ | refine w_ret ?_ | refine w_rt rfl ?_)
    · have hne : a2 ≠ b2 := by assumption
      exact ⟨⟨false, rfl, (fun e => by cases e), fun e => by have := hno e; simp only [Prod.mk.injEq] at this; exact absurd this.2.1 hne⟩, hE⟩
    have q2 : a2 = b2 := by assumption
    refine w_iadrS rfl rfl r1' hj1 ?_
    refine w_on rfl (w_fadr rfl hsa rfl fun hs => ?_)
    refine w_on rfl (w_load1 rfl hs rfl ?_)
    repeat' (first | refine w_on rfl ?_ | refine w_opk rfl rfl ?_)
    refine w_iadrS rfl rfl r2' hj4 ?_
    refine w_on rfl (w_fadr rfl hsb rfl fun hs => ?_)
    refine w_on rfl (w_load1 rfl hs rfl ?_)
    refine w_on rfl (w_strN rfl rfl (fun hne => ?_) (fun q3 => ?_))
    · repeat' (first | refine w_seq ?_ | refine w_reg ?_ | refine w_e ?_ | refine w_off rfl ?_ | refine w_opk rfl rfl ?_ | refine w_cond_t rfl ?_ | refine w_ret ?_ | refine w_rt rfl ?_)
      exact ⟨⟨false, rfl, (fun e => by cases e), fun e => by have := hno e; simp only [Prod.mk.injEq] at this; exact absurd this.2.2.1 hne⟩, hE⟩
    repeat' (first | refine w_on rfl ?_ | refine w_opk rfl rfl ?_)
    refine w_iadrS rfl rfl r1' hj1 ?_
    refine w_on rfl (w_fadr rfl hsa rfl fun hs => ?_)
    refine w_on rfl (w_load1 (c := []) rfl hs rfl ?_)
    repeat' (first | refine w_on rfl ?_ | refine w_opk rfl rfl ?_)
    refine w_iadrS rfl rfl r2' hj4 ?_
    refine w_on rfl (w_fadr rfl hsb rfl fun hs => ?_)
    refine w_on rfl (w_load1 (c := []) rfl hs rfl ?_)
    refine w_on rfl (w_call rfl ((sameVals_ok hO w1 x1 w2 x2 qa.2.2.2 qb.2.2.2).mono fun _ h5 ⟨⟨r, e3, er⟩, e4⟩ => ?_))
    subst e3
    cases r with
    | true =>
      repeat' (first | refine w_reg ?_ | refine w_e ?_ | refine w_on rfl ?_ | refine w_addN rfl rfl (by omega) ?_ | refine w_opk rfl rfl ?_ | refine w_cond_f rfl ?_ | refine w_skip ?_)
      exact ⟨hj1, hE.trans e4, hyes (by rw [q1, q2, q3, er.1 rfl]), _, _, _, _, rfl⟩
    | false =>
      repeat' (first | refine w_seq ?_ | refine w_reg ?_ | refine w_e ?_ | refine w_on rfl ?_ | refine w_opk rfl rfl ?_ | refine w_cond_t rfl ?_ | refine w_ret ?_ | refine w_rt rfl ?_)
      exact ⟨⟨false, rfl, (fun e => by cases e), fun e => by have := hno e; simp only [Prod.mk.injEq] at this; exact absurd (er.2 this.2.2.2) (by decide)⟩, hE.trans e4⟩
  · have hj1 : lc.length ≤ j := by assumption
    rw [List.take_of_length_le (by omega), List.take_of_length_le (by omega)] at htk
    exact ⟨⟨true, rfl, fun _ => htk, fun _ => rfl⟩, hE⟩

theorem same18_ok (hO : OffRS O) {Z Z' : Nat → Prop} {h0 : Heap} {n1 n2 n3 n4 m1 m2 m3 m4 : Int} {t u : List UInt8} {av aw : V} {lc ld : List (List V)} {l m : List Val} (hv : RSz Z h0 4 av lc) (hl : VasR Z h0 l lc) (hw : RSz Z' h0 4 aw ld) (hm : VasR Z' h0 m ld) (kl : cVals.ok l) (km : cVals.ok m) :
    WPc tab.get O 58 [.agg [.int .i64 n1, .int .i64 n2, .int .i64 n3, .int .i64 n4, .str t, av], .agg [.int .i64 m1, .int .i64 m2, .int .i64 m3, .int .i64 m4, .str u, aw]] h0 (fun v h' => (∃ r, v = .bool r ∧ (r = true ↔ n1 = m1 ∧ n2 = m2 ∧ n3 = m3 ∧ n4 = m4 ∧ t = u ∧ l = m)) ∧ Ext h0 h') := by
  refine w_fn' (hO.sm18 _ _) rfl rfl (by simp only [c58, initV, nth] <;> rfl) ?_
  have oa : allOne [V.int .i64 n1, .int .i64 n2, .int .i64 n3, .int .i64 n4, .str t, av] = true := by simp only [allOne, hv.1.one]; rfl
  have ob : allOne [V.int .i64 m1, .int .i64 m2, .int .i64 m3, .int .i64 m4, .str u, aw] = true := by simp only [allOne, hw.1.one]; rfl
  refine w_seq (w_reg (w_box rfl rfl oa fun iA h1 hA hiA hE1 => ?_))
  refine w_box rfl rfl ob fun iB h2 hB hiB hE2 => ?_
  have E2 := hE1.trans hE2
  replace hA : Own h2 iA [.int .i64 n1, .int .i64 n2, .int .i64 n3, .int .i64 n4, .str t, av] := hA.ext0 hE2
  replace hB : Own h2 iB [.int .i64 m1, .int .i64 m2, .int .i64 m3, .int .i64 m4, .str u, aw] := hB
  repeat' (first | refine w_seq ?_ | refine w_reg ?_ | refine w_e ?_ | refine w_off rfl ?_ | refine w_rf rfl (by assumption) (by rfl) (by rfl) (by rfl) ?_ | refine w_rfg rfl rfl (by assumption) (by rfl) (by rfl) (by rfl) (by rfl) ?_ | refine w_on rfl ?_ | refine w_eql rfl rfl (fun hc => ?_) (fun hc => ?_) | refine w_opk rfl rfl ?_ | refine w_ret ?_ | refine w_rt rfl ?_)
  rotate_left
  · exact ⟨⟨false, rfl, (fun e => by cases e), fun e => absurd e.2.2.2.1 (by assumption)⟩, E2⟩
  · exact ⟨⟨false, rfl, (fun e => by cases e), fun e => absurd e.2.2.1 (by assumption)⟩, E2⟩
  · exact ⟨⟨false, rfl, (fun e => by cases e), fun e => absurd e.2.1 (by assumption)⟩, E2⟩
  · exact ⟨⟨false, rfl, (fun e => by cases e), fun e => absurd e.1 (by assumption)⟩, E2⟩
  have q1 : n1 = m1 := by assumption
  have q2 : n2 = m2 := by assumption
  have q3 : n3 = m3 := by assumption
  have q4 : n4 = m4 := by assumption
  cases hq : eqBytes t u with
  | true =>
    have q5 := eqBytes_iff.1 hq
    repeat' (first | refine w_rfg rfl rfl (by assumption) (by rfl) (by rfl) (by rfl) (by rfl) ?_ | refine w_on rfl ?_)
    refine w_call rfl ((sameVals_ok hO ⟨hv.1.ext0 E2, hv.2⟩ (hl.ext0 E2) ⟨hw.1.ext0 E2, hw.2⟩ (hm.ext0 E2) kl km).mono fun _ h5 ⟨⟨r, e3, er⟩, e4⟩ => ?_)
    subst e3
    cases r with
    | true =>
      repeat' (first | refine w_e ?_ | refine w_opk rfl rfl ?_ | refine w_ret ?_ | refine w_rt rfl ?_)
      exact ⟨⟨true, rfl, fun _ => ⟨q1, q2, q3, q4, q5, er.1 rfl⟩, fun _ => rfl⟩, E2.trans e4⟩
    | false =>
      repeat' (first | refine w_e ?_ | refine w_opk rfl rfl ?_ | refine w_ret ?_ | refine w_rt rfl ?_)
      exact ⟨⟨false, rfl, (fun e => by cases e), fun e => absurd (er.2 e.2.2.2.2.2) (by decide)⟩, E2.trans e4⟩
  | false =>
    repeat' (first | refine w_e ?_ | refine w_off rfl ?_ | refine w_opk rfl rfl ?_ | refine w_ret ?_ | refine w_rt rfl ?_)
    exact ⟨⟨false, rfl, (fun e => by cases e), fun e => by rw [eqBytes_iff.2 e.2.2.2.2.1] at hq; cases hq⟩, E2⟩

theorem same19_ok (hO : OffRS O) {Z Z' : Nat → Prop} {h0 : Heap} {c d : List V} {R S : RecT} (ha : RecR Z h0 c R) (hb : RecR Z' h0 d S) (ka : cRec.ok R) (kb : cRec.ok S) :
    WPc tab.get O 24 [.agg c, .agg d] h0 (fun v h' => (∃ r, v = .bool r ∧ (r = true ↔ R = S)) ∧ Ext h0 h') := by
  refine w_fn' (hO.sm19 _ _) rfl rfl (by simp only [c24, initV, nth] <;> rfl) ?_
  have sa := ha.shape
  have sb := hb.shape
  refine w_seq (w_reg (w_box rfl sa.1 sa.2 fun iA h1 hA hiA hE1 => ?_))
  refine w_box rfl sb.1 sb.2 fun iB h2 hB hiB hE2 => ?_
  have E2 := hE1.trans hE2
  replace hA : Own h2 iA c := hA.ext0 hE2
  replace hB : Own h2 iB d := hB
  have ha2 := ha.ext0 E2
  have hb2 := hb.ext0 E2
  rw [rec_ok] at ka kb
  obtain ⟨⟨_, ka1, ka2, ka3, ka4⟩, _⟩ := ka
  obtain ⟨⟨_, kb1, kb2, kb3, kb4⟩, _⟩ := kb
  clear ha hb
  obtain ⟨n0, n1, n2, n3, n4, n5, n6, n7, n8, n9, tag, args, state, effs, av, sv, xv, la, ls, le, rfl, rfl, hn5, r1, v1, r2, v2, r3, a3⟩ := ha2
  obtain ⟨m0, m1, m2, m3, m4, m5, m6, m7, m8, m9, tag', args', state', effs', av', sv', xv', la', ls', le', rfl, rfl, hm5, r1', v1', r2', v2', r3', a3'⟩ := hb2
  have hno : (∀ (P : Prop), (n0 = m0 → n1 = m1 → n2 = m2 → n3 = m3 → n4 = m4 → n5 = m5 → n6 = m6 → n7 = m7 → n8 = m8 → n9 = m9 → tag = tag' → args = args' → state = state' → effs = effs' → P) → (([n0, n1, n2, n3, n4, n5, n6, n7, n8, n9], tag, args, state, effs) : RecT) = ([m0, m1, m2, m3, m4, m5, m6, m7, m8, m9], tag', args', state', effs') → P) := by
    intro P k e
    simp only [Prod.mk.injEq, List.cons.injEq, and_true] at e
    obtain ⟨⟨e0, e1, e2, e3, e4, e5, e6, e7, e8, e9⟩, e10, e11, e12, e13⟩ := e
    exact k e0 e1 e2 e3 e4 e5 e6 e7 e8 e9 e10 e11 e12 e13
  simp only at ka1 ka2 ka3 ka4 kb1 kb2 kb3 kb4
  repeat' (first | refine w_seq ?_ | refine w_reg ?_ | refine w_e ?_ | refine w_off rfl ?_ | refine w_rf rfl (by assumption) (by rfl) (by rfl) (by rfl) ?_ | refine w_on rfl ?_ | refine w_eql rfl rfl (fun hc => ?_) (fun hc => ?_) | refine w_opk rfl rfl ?_ | refine w_ret ?_ | refine w_rt rfl ?_)
  rotate_left
  · exact ⟨⟨false, rfl, (fun e => by cases e), hno _ fun e0 _ _ _ _ _ _ _ _ _ _ _ _ _ => absurd e0 (by assumption)⟩, E2⟩
  have q0 : n0 = m0 := by assumption
  refine w_loadA rfl ((hA.at rfl).fadr (d := 1) (by simp)) rfl ?_
  repeat' (first | refine w_on rfl ?_ | refine w_opk rfl rfl ?_)
  refine w_loadA rfl ((hB.at rfl).fadr (d := 1) (by simp)) rfl ?_
  refine w_on rfl (w_callA [.agg [.int .i64 n1, .int .i64 n2, .int .i64 n3, .int .i64 n4, .str tag, av], .agg [.int .i64 m1, .int .i64 m2, .int .i64 m3, .int .i64 m4, .str tag', av']] rfl ((same18_ok hO r1 v1 r1' v1' ka2 kb2).mono fun _ h5 ⟨⟨r, e3, er⟩, e4⟩ => ?_))
  subst e3
  replace hA := hA.ext0 e4
  replace hB := hB.ext0 e4
  have E5 := E2.trans e4
  cases r with
  | false =>
    repeat' (first | refine w_e ?_ | refine w_off rfl ?_ | refine w_opk rfl rfl ?_ | refine w_ret ?_ | refine w_rt rfl ?_)
    exact ⟨⟨false, rfl, (fun e => by cases e), hno _ fun _ e1 e2 e3 e4 _ _ _ _ _ e5 e6 _ _ => absurd (er.2 ⟨e1, e2, e3, e4, e5, e6⟩) (by decide)⟩, E5⟩
  | true =>
  obtain ⟨q1, q2, q3, q4, q5, q6⟩ := er.1 rfl
  repeat' (first | refine w_e ?_ | refine w_off rfl ?_ | refine w_rfg rfl rfl (by assumption) (by rfl) (by rfl) (by rfl) (by rfl) ?_ | refine w_on rfl ?_ | refine w_eql rfl rfl (fun hc => ?_) (fun hc => ?_) | refine w_opk rfl rfl ?_ | refine w_ret ?_ | refine w_rt rfl ?_)
  rotate_left
  · exact ⟨⟨false, rfl, (fun e => by cases e), hno _ fun _ _ _ _ _ _ _ e7 _ _ _ _ _ _ => absurd e7 (by assumption)⟩, E5⟩
  · exact ⟨⟨false, rfl, (fun e => by cases e), hno _ fun _ _ _ _ _ _ e6 _ _ _ _ _ _ _ => absurd e6 (by assumption)⟩, E5⟩
  · exact ⟨⟨false, rfl, (fun e => by cases e), hno _ fun _ _ _ _ _ e5 _ _ _ _ _ _ _ _ => absurd e5 (by assumption)⟩, E5⟩
  have p5 : n5 = m5 := by assumption
  have p6 : n6 = m6 := by assumption
  have p7 : n7 = m7 := by assumption
  refine w_call rfl ((sameEffs_ok hO ⟨r3.1.ext0 e4, r3.2⟩ (a3.mono fun _ _ _ _ k => k.ext e4 (S := []) (by simp)) ⟨r3'.1.ext0 e4, r3'.2⟩ (a3'.mono fun _ _ _ _ k => k.ext e4 (S := []) (by simp)) ka4 kb4).mono fun _ h6 ⟨⟨r, e3, er⟩, e6⟩ => ?_)
  subst e3
  replace hA := hA.ext0 e6
  replace hB := hB.ext0 e6
  have E6 := E5.trans e6
  have e46 := e4.trans e6
  cases r with
  | false =>
    repeat' (first | refine w_e ?_ | refine w_off rfl ?_ | refine w_opk rfl rfl ?_ | refine w_ret ?_ | refine w_rt rfl ?_)
    exact ⟨⟨false, rfl, (fun e => by cases e), hno _ fun _ _ _ _ _ _ _ _ _ _ _ _ _ e13 => absurd (er.2 e13) (by decide)⟩, E6⟩
  | true =>
  have q13 := er.1 rfl
  repeat' (first | refine w_e ?_ | refine w_off rfl ?_ | refine w_rfg rfl rfl (by assumption) (by rfl) (by rfl) (by rfl) (by rfl) ?_ | refine w_on rfl ?_ | refine w_eql rfl rfl (fun hc => ?_) (fun hc => ?_) | refine w_opk rfl rfl ?_ | refine w_ret ?_ | refine w_rt rfl ?_)
  rotate_left
  · exact ⟨⟨false, rfl, (fun e => by cases e), hno _ fun _ _ _ _ _ _ _ _ e8 _ _ _ _ _ => absurd e8 (by assumption)⟩, E6⟩
  have p8 : n8 = m8 := by assumption
  refine w_call rfl ((sameVals_ok hO ⟨r2.1.ext0 e46, r2.2⟩ (v2.ext0 e46) ⟨r2'.1.ext0 e46, r2'.2⟩ (v2'.ext0 e46) ka3 kb3).mono fun _ h7 ⟨⟨r, e3, er⟩, e7⟩ => ?_)
  subst e3
  replace hA := hA.ext0 e7
  replace hB := hB.ext0 e7
  have E7 := E6.trans e7
  cases r with
  | false =>
    repeat' (first | refine w_e ?_ | refine w_off rfl ?_ | refine w_opk rfl rfl ?_ | refine w_ret ?_ | refine w_rt rfl ?_)
    exact ⟨⟨false, rfl, (fun e => by cases e), hno _ fun _ _ _ _ _ _ _ _ _ _ _ _ e12 _ => absurd (er.2 e12) (by decide)⟩, E7⟩
  | true =>
  have q12 := er.1 rfl
  repeat' (first | refine w_e ?_ | refine w_rfg rfl rfl (by assumption) (by rfl) (by rfl) (by rfl) (by rfl) ?_ | refine w_on rfl ?_ | refine w_eql rfl rfl (fun hc => ?_) (fun hc => ?_) | refine w_opk rfl rfl ?_ | refine w_ret ?_ | refine w_rt rfl ?_)
  · have p9 : n9 = m9 := by assumption
    exact ⟨⟨true, rfl, fun _ => by rw [q0, q1, q2, q3, q4, p5, p6, p7, p8, p9, q5, q6, q12, q13], fun _ => rfl⟩, E7⟩
  · exact ⟨⟨false, rfl, (fun e => by cases e), hno _ fun _ _ _ _ _ _ _ _ _ e9 _ _ _ _ => absurd e9 (by assumption)⟩, E7⟩
end AmT
