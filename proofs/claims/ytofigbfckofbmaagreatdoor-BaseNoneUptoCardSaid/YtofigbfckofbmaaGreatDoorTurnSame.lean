/-
  Turns that hold the same are the same. Conditions: none.
-/
import Derived.Test.YtofigbfckofbmaaGreatDoorTurn
namespace AmT
open Go Am
set_option maxRecDepth 100000
set_option maxHeartbeats 4000000
set_option linter.unusedSimpArgs false
set_option linter.unusedVariables false
variable {O : CallF}

theorem same12_ok (hO : OffTurn O) {h0 : Heap} {a b : List V} {T : TurnT} (ha : TurnR h0 a T) (hb : TurnR h0 b T) : WPc tab.get O 22 [.agg a, .agg b] h0 (fun v h' => v = .bool true ∧ Ext h0 h') := by
  refine w_fn' (hO.same _ _) rfl rfl (by simp only [c22, initV, nth] <;> rfl) ?_
  have hsa := ha.shape
  have hsb := hb.shape
  refine w_seq (w_reg (w_box rfl hsa.1 hsa.2 fun iA h1 hA hiA hE1 => ?_))
  refine w_box rfl hsb.1 hsb.2 fun iB h2 hB hiB hE2 => ?_
  have E2 := hE1.trans hE2
  replace hA := hA.ext0 hE2
  obtain ⟨vf, ve, vs, lf, rfl, rf, sf, re, be, se, rs, bs⟩ := ha.ext E2
  obtain ⟨wf, we, ws, mf, rfl, uf, tf, ue, _, _, us, _⟩ := hb.ext E2
  repeat' (first | refine w_seq ?_ | refine w_reg ?_ | refine w_end (by simp only [outsV, nth, setV, List.take_succ_cons, List.take_zero, List.length_cons, List.length_nil, Nat.zero_add, Nat.reduceAdd] <;> rfl) ?_ | refine w_off rfl ?_ | refine w_rf rfl (by assumption) (by rfl) (by rfl) (by rfl) ?_ | refine w_rfg rfl rfl (by assumption) (by rfl) (by rfl) (by rfl) (by rfl) ?_ | refine w_on rfl ?_ | refine w_len rfl (by assumption) ?_ | refine w_lssN rfl rfl (fun hc => ?_) (fun hc => ?_) | refine w_leqN rfl rfl (fun hc => ?_) (fun hc => ?_) | refine w_gtrN rfl rfl (fun hc => ?_) (fun hc => ?_) | refine w_geqN rfl rfl (fun hc => ?_) (fun hc => ?_) | refine w_eqlN rfl rfl (fun hc => ?_) (fun hc => ?_) | refine w_neqN rfl rfl (fun hc => ?_) (fun hc => ?_) | refine w_lss rfl rfl (fun hc => ?_) (fun hc => ?_) | refine w_leq rfl rfl (fun hc => ?_) (fun hc => ?_) | refine w_gtr rfl rfl (fun hc => ?_) (fun hc => ?_) | refine w_geq rfl rfl (fun hc => ?_) (fun hc => ?_) | refine w_eql rfl rfl (fun hc => ?_) (fun hc => ?_) | refine w_neq rfl rfl (fun hc => ?_) (fun hc => ?_) | refine w_addN rfl rfl (by omega) ?_ | refine w_opk rfl rfl ?_ | refine w_cond_t rfl ?_ | refine w_cond_f rfl ?_ | refine w_skip ?_ | refine w_exit rfl ?_ | refine w_ret ?_ | refine w_rt rfl ?_)
  · exact absurd rfl hc
  · exact absurd rfl hc
  · exact absurd rfl hc
  · exact absurd rfl hc
  · exact absurd rfl hc
  · exact absurd rfl hc
  refine w_call rfl ((sameValues_ok hO.toOffVals rs us bs).mono fun v' h3 ⟨e1, hE3⟩ => ?_)
  subst e1
  replace hA := hA.ext0 hE3
  replace hB := hB.ext0 hE3
  replace rf := rf.ext0 hE3
  replace re := re.ext0 hE3
  replace uf := uf.ext0 hE3
  replace ue := ue.ext0 hE3
  replace sf := sf.ext hE3
  replace tf := tf.ext hE3
  replace E2 := E2.trans hE3
  clear hE3 rs us
  repeat' (first | refine w_seq ?_ | refine w_reg ?_ | refine w_end (by simp only [outsV, nth, setV, List.take_succ_cons, List.take_zero, List.length_cons, List.length_nil, Nat.zero_add, Nat.reduceAdd] <;> rfl) ?_ | refine w_off rfl ?_ | refine w_rf rfl (by assumption) (by rfl) (by rfl) (by rfl) ?_ | refine w_rfg rfl rfl (by assumption) (by rfl) (by rfl) (by rfl) (by rfl) ?_ | refine w_on rfl ?_ | refine w_len rfl (by assumption) ?_ | refine w_lssN rfl rfl (fun hc => ?_) (fun hc => ?_) | refine w_leqN rfl rfl (fun hc => ?_) (fun hc => ?_) | refine w_gtrN rfl rfl (fun hc => ?_) (fun hc => ?_) | refine w_geqN rfl rfl (fun hc => ?_) (fun hc => ?_) | refine w_eqlN rfl rfl (fun hc => ?_) (fun hc => ?_) | refine w_neqN rfl rfl (fun hc => ?_) (fun hc => ?_) | refine w_lss rfl rfl (fun hc => ?_) (fun hc => ?_) | refine w_leq rfl rfl (fun hc => ?_) (fun hc => ?_) | refine w_gtr rfl rfl (fun hc => ?_) (fun hc => ?_) | refine w_geq rfl rfl (fun hc => ?_) (fun hc => ?_) | refine w_eql rfl rfl (fun hc => ?_) (fun hc => ?_) | refine w_neq rfl rfl (fun hc => ?_) (fun hc => ?_) | refine w_addN rfl rfl (by omega) ?_ | refine w_opk rfl rfl ?_ | refine w_cond_t rfl ?_ | refine w_cond_f rfl ?_ | refine w_skip ?_ | refine w_exit rfl ?_ | refine w_ret ?_ | refine w_rt rfl ?_)
  refine w_call rfl ((sameEffects_ok hO re ue be se).mono fun v' h4 ⟨e1, hE3⟩ => ?_)
  subst e1
  replace hA := hA.ext0 hE3
  replace hB := hB.ext0 hE3
  replace rf := rf.ext0 hE3
  replace uf := uf.ext0 hE3
  replace sf := sf.ext hE3
  replace tf := tf.ext hE3
  replace E2 := E2.trans hE3
  clear hE3 re ue
  obtain ⟨ef, bf, sf⟩ := sf
  obtain ⟨eg, _, tf⟩ := tf
  repeat' (first | refine w_seq ?_ | refine w_reg ?_ | refine w_end (by simp only [outsV, nth, setV, List.take_succ_cons, List.take_zero, List.length_cons, List.length_nil, Nat.zero_add, Nat.reduceAdd] <;> rfl) ?_ | refine w_off rfl ?_ | refine w_rf rfl (by assumption) (by rfl) (by rfl) (by rfl) ?_ | refine w_rfg rfl rfl (by assumption) (by rfl) (by rfl) (by rfl) (by rfl) ?_ | refine w_on rfl ?_ | refine w_len rfl (by assumption) ?_ | refine w_lssN rfl rfl (fun hc => ?_) (fun hc => ?_) | refine w_leqN rfl rfl (fun hc => ?_) (fun hc => ?_) | refine w_gtrN rfl rfl (fun hc => ?_) (fun hc => ?_) | refine w_geqN rfl rfl (fun hc => ?_) (fun hc => ?_) | refine w_eqlN rfl rfl (fun hc => ?_) (fun hc => ?_) | refine w_neqN rfl rfl (fun hc => ?_) (fun hc => ?_) | refine w_lss rfl rfl (fun hc => ?_) (fun hc => ?_) | refine w_leq rfl rfl (fun hc => ?_) (fun hc => ?_) | refine w_gtr rfl rfl (fun hc => ?_) (fun hc => ?_) | refine w_geq rfl rfl (fun hc => ?_) (fun hc => ?_) | refine w_eql rfl rfl (fun hc => ?_) (fun hc => ?_) | refine w_neq rfl rfl (fun hc => ?_) (fun hc => ?_) | refine w_addN rfl rfl (by omega) ?_ | refine w_opk rfl rfl ?_ | refine w_cond_t rfl ?_ | refine w_cond_f rfl ?_ | refine w_skip ?_ | refine w_exit rfl ?_ | refine w_ret ?_ | refine w_rt rfl ?_)
  · exact absurd (by omega) hc
  refine w_count (fun j vs' h => Ext h4 h ∧ ∃ b8 b9 b10 b11 b12, vs' = [.agg [vf, ve, .int .i64 T.self, .int .i64 T.next, .int .i64 T.used, .int .u8 T.over, .int .i64 T.trap, .int .i64 T.role, vs], .agg [wf, we, .int .i64 T.self, .int .i64 T.next, .int .i64 T.used, .int .u8 T.over, .int .i64 T.trap, .int .i64 T.role, ws], .bool false, .ptr iA 0 0 9, .ptr iB 0 0 9, .bool false, .int .i64 (.ofNat j), .int .i64 (.ofNat lf.length), b8, b9, b10, b11, b12]) lf.length ⟨ExtX.refl _ _, _, _, _, _, _, rfl⟩ ?_
  rintro j vs' h hj ⟨hE, b8, b9, b10, b11, b12, rfl⟩
  have hA' := hA.ext0 hE
  have hB' := hB.ext0 hE
  have rf' := rf.ext0 hE
  have uf' := uf.ext0 hE
  have E := E2.trans hE
  repeat' (first | refine w_seq ?_ | refine w_reg ?_ | refine w_end (by simp only [outsV, nth, setV, List.take_succ_cons, List.take_zero, List.length_cons, List.length_nil, Nat.zero_add, Nat.reduceAdd] <;> rfl) ?_ | refine w_off rfl ?_ | refine w_rf rfl (by assumption) (by rfl) (by rfl) (by rfl) ?_ | refine w_rfg rfl rfl (by assumption) (by rfl) (by rfl) (by rfl) (by rfl) ?_ | refine w_on rfl ?_ | refine w_len rfl (by assumption) ?_ | refine w_lssN rfl rfl (fun hc => ?_) (fun hc => ?_) | refine w_leqN rfl rfl (fun hc => ?_) (fun hc => ?_) | refine w_gtrN rfl rfl (fun hc => ?_) (fun hc => ?_) | refine w_geqN rfl rfl (fun hc => ?_) (fun hc => ?_) | refine w_eqlN rfl rfl (fun hc => ?_) (fun hc => ?_) | refine w_neqN rfl rfl (fun hc => ?_) (fun hc => ?_) | refine w_lss rfl rfl (fun hc => ?_) (fun hc => ?_) | refine w_leq rfl rfl (fun hc => ?_) (fun hc => ?_) | refine w_gtr rfl rfl (fun hc => ?_) (fun hc => ?_) | refine w_geq rfl rfl (fun hc => ?_) (fun hc => ?_) | refine w_eql rfl rfl (fun hc => ?_) (fun hc => ?_) | refine w_neq rfl rfl (fun hc => ?_) (fun hc => ?_) | refine w_addN rfl rfl (by omega) ?_ | refine w_opk rfl rfl ?_ | refine w_cond_t rfl ?_ | refine w_cond_f rfl ?_ | refine w_skip ?_ | refine w_exit rfl ?_ | refine w_ret ?_ | refine w_rt rfl ?_)
  · have hje : j < lf.length := by assumption
    have hjF : j < T.frames.length := by omega
    have hjm : j < mf.length := by omega
    have kf := (sf j lf[j] T.frames[j] (List.getElem?_eq_getElem hje) (List.getElem?_eq_getElem hjF)).ext hE
    have kg := (tf j mf[j] T.frames[j] (List.getElem?_eq_getElem hjm) (List.getElem?_eq_getElem hjF)).ext hE
    generalize T.frames[j] = F at *
    have k1 := kf.shape.2
    have k2 := kg.shape.2
    obtain ⟨p1, q1, e1, r11, r12, v11, v12⟩ := kf
    obtain ⟨p2, q2, e2, r21, r22, _, _⟩ := kg
    rw [e1] at k1
    rw [e2] at k2
    have hSA := slot_at rf' hje
    rw [e1] at hSA
    have hSB := slot_at uf' hjm
    rw [e2] at hSB
    refine w_block ?_
    repeat' (first | refine w_seq ?_ | refine w_reg ?_ | refine w_end (by simp only [outsV, nth, setV, List.take_succ_cons, List.take_zero, List.length_cons, List.length_nil, Nat.zero_add, Nat.reduceAdd] <;> rfl) ?_ | refine w_off rfl ?_ | refine w_rf rfl (by assumption) (by rfl) (by rfl) (by rfl) ?_ | refine w_rfg rfl rfl (by assumption) (by rfl) (by rfl) (by rfl) (by rfl) ?_ | refine w_on rfl ?_ | refine w_len rfl (by assumption) ?_ | refine w_lssN rfl rfl (fun hc => ?_) (fun hc => ?_) | refine w_leqN rfl rfl (fun hc => ?_) (fun hc => ?_) | refine w_gtrN rfl rfl (fun hc => ?_) (fun hc => ?_) | refine w_geqN rfl rfl (fun hc => ?_) (fun hc => ?_) | refine w_eqlN rfl rfl (fun hc => ?_) (fun hc => ?_) | refine w_neqN rfl rfl (fun hc => ?_) (fun hc => ?_) | refine w_lss rfl rfl (fun hc => ?_) (fun hc => ?_) | refine w_leq rfl rfl (fun hc => ?_) (fun hc => ?_) | refine w_gtr rfl rfl (fun hc => ?_) (fun hc => ?_) | refine w_geq rfl rfl (fun hc => ?_) (fun hc => ?_) | refine w_eql rfl rfl (fun hc => ?_) (fun hc => ?_) | refine w_neq rfl rfl (fun hc => ?_) (fun hc => ?_) | refine w_addN rfl rfl (by omega) ?_ | refine w_opk rfl rfl ?_ | refine w_cond_t rfl ?_ | refine w_cond_f rfl ?_ | refine w_skip ?_ | refine w_exit rfl ?_ | refine w_ret ?_ | refine w_rt rfl ?_)
    refine w_iadrS rfl rfl rf' hje ?_
    refine w_loadA rfl hSA rfl ?_
    repeat' (first | refine w_seq ?_ | refine w_reg ?_ | refine w_end (by simp only [outsV, nth, setV, List.take_succ_cons, List.take_zero, List.length_cons, List.length_nil, Nat.zero_add, Nat.reduceAdd] <;> rfl) ?_ | refine w_off rfl ?_ | refine w_rf rfl (by assumption) (by rfl) (by rfl) (by rfl) ?_ | refine w_rfg rfl rfl (by assumption) (by rfl) (by rfl) (by rfl) (by rfl) ?_ | refine w_on rfl ?_ | refine w_len rfl (by assumption) ?_ | refine w_lssN rfl rfl (fun hc => ?_) (fun hc => ?_) | refine w_leqN rfl rfl (fun hc => ?_) (fun hc => ?_) | refine w_gtrN rfl rfl (fun hc => ?_) (fun hc => ?_) | refine w_geqN rfl rfl (fun hc => ?_) (fun hc => ?_) | refine w_eqlN rfl rfl (fun hc => ?_) (fun hc => ?_) | refine w_neqN rfl rfl (fun hc => ?_) (fun hc => ?_) | refine w_lss rfl rfl (fun hc => ?_) (fun hc => ?_) | refine w_leq rfl rfl (fun hc => ?_) (fun hc => ?_) | refine w_gtr rfl rfl (fun hc => ?_) (fun hc => ?_) | refine w_geq rfl rfl (fun hc => ?_) (fun hc => ?_) | refine w_eql rfl rfl (fun hc => ?_) (fun hc => ?_) | refine w_neq rfl rfl (fun hc => ?_) (fun hc => ?_) | refine w_addN rfl rfl (by omega) ?_ | refine w_opk rfl rfl ?_ | refine w_cond_t rfl ?_ | refine w_cond_f rfl ?_ | refine w_skip ?_ | refine w_exit rfl ?_ | refine w_ret ?_ | refine w_rt rfl ?_)
    refine w_iadrS rfl rfl uf' hjm ?_
    refine w_loadA rfl hSB rfl ?_
    refine w_alloc fun ix h5 hx hix hE3 => ?_
    refine w_alloc fun iy h6 hy hiy hE4 => ?_
    have hixl := hx.1
    replace hx := hx.ext0 hE4
    have hAl := hA'.1
    have hBl := hB'.1
    refine w_store rfl rfl hx rfl k1 (by decide) (by simp) fun h7 hx5 hE5 hn5 => ?_
    replace hx5 : Own h7 ix [.int .i64 F.fn, .int .i64 F.at_, p1, q1] := hx5
    have hF5 : Ext h h7 := (hE3.trans hE4).step hE5 fun jd hjd => by simp at hjd; exact .inr (by omega)
    have hSB5 := slot_at (uf'.ext0 hF5) hjm
    rw [e2] at hSB5
    have hB5 := hB'.ext0 hF5
    refine w_chkA rfl rfl hSB5 (by simp) (V.beqL_refl _) ?_
    refine w_chk1 rfl rfl (hB5.at rfl) (V.beq_refl _) ?_
    have hy5 := hy.ext hE5 (by simp; omega)
    refine w_store rfl rfl hy5 rfl k2 (by decide) (by simp) fun h8 hy6 hE6 hn6 => ?_
    replace hy6 : Own h8 iy [.int .i64 F.fn, .int .i64 F.at_, p2, q2] := hy6
    have hx6 := hx5.ext hE6 (by simp; omega)
    have hF6 : Ext h h8 := hF5.step hE6 fun jd hjd => by simp at hjd; exact .inr (by have := hE3.1; omega)
    replace r11 := r11.ext0 hF6
    replace r12 := r12.ext0 hF6
    replace r21 := r21.ext0 hF6
    replace r22 := r22.ext0 hF6
    have hEE := hE.trans hF6
    clear hx hy hE5 hE6 hE3 hE4 hA' hB' hSA hSB hSB5 hB5 hx5 hy5 rf' uf' hF5 hF6
    repeat' (first | refine w_seq ?_ | refine w_reg ?_ | refine w_end (by simp only [outsV, nth, setV, List.take_succ_cons, List.take_zero, List.length_cons, List.length_nil, Nat.zero_add, Nat.reduceAdd] <;> rfl) ?_ | refine w_off rfl ?_ | refine w_rf rfl (by assumption) (by rfl) (by rfl) (by rfl) ?_ | refine w_rfg rfl rfl (by assumption) (by rfl) (by rfl) (by rfl) (by rfl) ?_ | refine w_on rfl ?_ | refine w_len rfl (by assumption) ?_ | refine w_lssN rfl rfl (fun hc => ?_) (fun hc => ?_) | refine w_leqN rfl rfl (fun hc => ?_) (fun hc => ?_) | refine w_gtrN rfl rfl (fun hc => ?_) (fun hc => ?_) | refine w_geqN rfl rfl (fun hc => ?_) (fun hc => ?_) | refine w_eqlN rfl rfl (fun hc => ?_) (fun hc => ?_) | refine w_neqN rfl rfl (fun hc => ?_) (fun hc => ?_) | refine w_lss rfl rfl (fun hc => ?_) (fun hc => ?_) | refine w_leq rfl rfl (fun hc => ?_) (fun hc => ?_) | refine w_gtr rfl rfl (fun hc => ?_) (fun hc => ?_) | refine w_geq rfl rfl (fun hc => ?_) (fun hc => ?_) | refine w_eql rfl rfl (fun hc => ?_) (fun hc => ?_) | refine w_neq rfl rfl (fun hc => ?_) (fun hc => ?_) | refine w_addN rfl rfl (by omega) ?_ | refine w_opk rfl rfl ?_ | refine w_cond_t rfl ?_ | refine w_cond_f rfl ?_ | refine w_skip ?_ | refine w_exit rfl ?_ | refine w_ret ?_ | refine w_rt rfl ?_)
    · exact absurd rfl hc
    · exact absurd rfl hc
    refine w_call rfl ((sameValues_ok hO.toOffVals r11 r21 v11).mono fun v' h9 ⟨e3, hE9⟩ => ?_)
    subst e3
    replace hx6 := hx6.ext0 hE9
    replace hy6 := hy6.ext0 hE9
    repeat' (first | refine w_seq ?_ | refine w_reg ?_ | refine w_end (by simp only [outsV, nth, setV, List.take_succ_cons, List.take_zero, List.length_cons, List.length_nil, Nat.zero_add, Nat.reduceAdd] <;> rfl) ?_ | refine w_off rfl ?_ | refine w_rf rfl (by assumption) (by rfl) (by rfl) (by rfl) ?_ | refine w_rfg rfl rfl (by assumption) (by rfl) (by rfl) (by rfl) (by rfl) ?_ | refine w_on rfl ?_ | refine w_len rfl (by assumption) ?_ | refine w_lssN rfl rfl (fun hc => ?_) (fun hc => ?_) | refine w_leqN rfl rfl (fun hc => ?_) (fun hc => ?_) | refine w_gtrN rfl rfl (fun hc => ?_) (fun hc => ?_) | refine w_geqN rfl rfl (fun hc => ?_) (fun hc => ?_) | refine w_eqlN rfl rfl (fun hc => ?_) (fun hc => ?_) | refine w_neqN rfl rfl (fun hc => ?_) (fun hc => ?_) | refine w_lss rfl rfl (fun hc => ?_) (fun hc => ?_) | refine w_leq rfl rfl (fun hc => ?_) (fun hc => ?_) | refine w_gtr rfl rfl (fun hc => ?_) (fun hc => ?_) | refine w_geq rfl rfl (fun hc => ?_) (fun hc => ?_) | refine w_eql rfl rfl (fun hc => ?_) (fun hc => ?_) | refine w_neq rfl rfl (fun hc => ?_) (fun hc => ?_) | refine w_addN rfl rfl (by omega) ?_ | refine w_opk rfl rfl ?_ | refine w_cond_t rfl ?_ | refine w_cond_f rfl ?_ | refine w_skip ?_ | refine w_exit rfl ?_ | refine w_ret ?_ | refine w_rt rfl ?_)
    refine w_call rfl ((sameValues_ok hO.toOffVals (r12.ext0 hE9) (r22.ext0 hE9) v12).mono fun v' h10 ⟨e3, hE10⟩ => ?_)
    subst e3
    repeat' (first | refine w_seq ?_ | refine w_reg ?_ | refine w_end (by simp only [outsV, nth, setV, List.take_succ_cons, List.take_zero, List.length_cons, List.length_nil, Nat.zero_add, Nat.reduceAdd] <;> rfl) ?_ | refine w_off rfl ?_ | refine w_rf rfl (by assumption) (by rfl) (by rfl) (by rfl) ?_ | refine w_rfg rfl rfl (by assumption) (by rfl) (by rfl) (by rfl) (by rfl) ?_ | refine w_on rfl ?_ | refine w_len rfl (by assumption) ?_ | refine w_lssN rfl rfl (fun hc => ?_) (fun hc => ?_) | refine w_leqN rfl rfl (fun hc => ?_) (fun hc => ?_) | refine w_gtrN rfl rfl (fun hc => ?_) (fun hc => ?_) | refine w_geqN rfl rfl (fun hc => ?_) (fun hc => ?_) | refine w_eqlN rfl rfl (fun hc => ?_) (fun hc => ?_) | refine w_neqN rfl rfl (fun hc => ?_) (fun hc => ?_) | refine w_lss rfl rfl (fun hc => ?_) (fun hc => ?_) | refine w_leq rfl rfl (fun hc => ?_) (fun hc => ?_) | refine w_gtr rfl rfl (fun hc => ?_) (fun hc => ?_) | refine w_geq rfl rfl (fun hc => ?_) (fun hc => ?_) | refine w_eql rfl rfl (fun hc => ?_) (fun hc => ?_) | refine w_neq rfl rfl (fun hc => ?_) (fun hc => ?_) | refine w_addN rfl rfl (by omega) ?_ | refine w_opk rfl rfl ?_ | refine w_cond_t rfl ?_ | refine w_cond_f rfl ?_ | refine w_skip ?_ | refine w_exit rfl ?_ | refine w_ret ?_ | refine w_rt rfl ?_)
    exact ⟨hje, hEE.trans (hE9.trans hE10), _, _, _, _, _, rfl⟩
  · exact ⟨rfl, E⟩
end AmT
