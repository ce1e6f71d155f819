/-
  base.Right, base.Run, base.Begin over the module that may not be. Conditions: none.
-/
import Derived.Test.YtofigbfckofbmaaGreatDoorCheckBad
namespace AmT
open Go Am
set_option maxRecDepth 100000
set_option maxHeartbeats 4000000
set_option linter.unusedSimpArgs false
set_option linter.unusedVariables false
variable {O : CallF}

structure OffRun (O : CallF) : Prop extends OffBad O, OffCopied O, OffTurn O where
  run : ∀ a h, O 23 a h = none
  bg : ∀ v av h, v ≠ .nils → O 21 (.agg (badM v) :: av) h = none

theorem right_bad (hO : OffBad O) {h0 : Heap} {m : V} {t : List V} {T : TurnT} (hm : RS h0 4 m [emptyFn]) (ht : TurnR h0 t T) : WPc tab.get O 53 [.agg (badM m), .agg t] h0 (fun v h' => v = .bool false ∧ Ext h0 h') := by
  refine w_fn' (hO.right _ _) rfl rfl (by simp only [c53, initV, nth] <;> rfl) ?_
  have hs := ht.shape
  refine w_seq (w_reg (w_box rfl rfl (by simp only [badM, V.cells, allOne, hm.one]; rfl) fun iA h1 hA hiA hE1 => ?_))
  refine w_box rfl hs.1 hs.2 fun iB h2 hB hiB hE2 => ?_
  have E2 := hE1.trans hE2
  replace hA : Own h2 iA (badM m) := hA.ext0 hE2
  repeat' (first | refine w_seq ?_ | refine w_reg ?_ | refine w_end (by simp only [outsV, nth, setV, List.take_succ_cons, List.take_zero, List.length_cons, List.length_nil, Nat.zero_add, Nat.reduceAdd] <;> rfl) ?_ | refine w_off rfl ?_ | refine w_rf rfl (by assumption) (by rfl) (by rfl) (by rfl) ?_ | refine w_rfg rfl rfl (by assumption) (by rfl) (by rfl) (by rfl) (by rfl) ?_ | refine w_on rfl ?_ | refine w_len rfl (by assumption) ?_ | refine w_lssN rfl rfl (fun hc => ?_) (fun hc => ?_) | refine w_leqN rfl rfl (fun hc => ?_) (fun hc => ?_) | refine w_gtrN rfl rfl (fun hc => ?_) (fun hc => ?_) | refine w_geqN rfl rfl (fun hc => ?_) (fun hc => ?_) | refine w_eqlN rfl rfl (fun hc => ?_) (fun hc => ?_) | refine w_neqN rfl rfl (fun hc => ?_) (fun hc => ?_) | refine w_lss rfl rfl (fun hc => ?_) (fun hc => ?_) | refine w_leq rfl rfl (fun hc => ?_) (fun hc => ?_) | refine w_gtr rfl rfl (fun hc => ?_) (fun hc => ?_) | refine w_geq rfl rfl (fun hc => ?_) (fun hc => ?_) | refine w_eql rfl rfl (fun hc => ?_) (fun hc => ?_) | refine w_neq rfl rfl (fun hc => ?_) (fun hc => ?_) | refine w_addN rfl rfl (by omega) ?_ | refine w_opk rfl rfl ?_ | refine w_cond_t rfl ?_ | refine w_cond_f rfl ?_ | refine w_skip ?_ | refine w_exit rfl ?_ | refine w_ret ?_ | refine w_rt rfl ?_)
  refine w_loadA rfl (hA.at rfl) rfl ?_
  refine w_callA [.agg (badM m)] rfl ((check_bad hO (hm.ext0 E2)).mono fun v' h3 ⟨e1, hE3⟩ => ?_)
  subst e1
  repeat' (first | refine w_seq ?_ | refine w_reg ?_ | refine w_end (by simp only [outsV, nth, setV, List.take_succ_cons, List.take_zero, List.length_cons, List.length_nil, Nat.zero_add, Nat.reduceAdd] <;> rfl) ?_ | refine w_off rfl ?_ | refine w_rf rfl (by assumption) (by rfl) (by rfl) (by rfl) ?_ | refine w_rfg rfl rfl (by assumption) (by rfl) (by rfl) (by rfl) (by rfl) ?_ | refine w_on rfl ?_ | refine w_len rfl (by assumption) ?_ | refine w_lssN rfl rfl (fun hc => ?_) (fun hc => ?_) | refine w_leqN rfl rfl (fun hc => ?_) (fun hc => ?_) | refine w_gtrN rfl rfl (fun hc => ?_) (fun hc => ?_) | refine w_geqN rfl rfl (fun hc => ?_) (fun hc => ?_) | refine w_eqlN rfl rfl (fun hc => ?_) (fun hc => ?_) | refine w_neqN rfl rfl (fun hc => ?_) (fun hc => ?_) | refine w_lss rfl rfl (fun hc => ?_) (fun hc => ?_) | refine w_leq rfl rfl (fun hc => ?_) (fun hc => ?_) | refine w_gtr rfl rfl (fun hc => ?_) (fun hc => ?_) | refine w_geq rfl rfl (fun hc => ?_) (fun hc => ?_) | refine w_eql rfl rfl (fun hc => ?_) (fun hc => ?_) | refine w_neq rfl rfl (fun hc => ?_) (fun hc => ?_) | refine w_addN rfl rfl (by omega) ?_ | refine w_opk rfl rfl ?_ | refine w_cond_t rfl ?_ | refine w_cond_f rfl ?_ | refine w_skip ?_ | refine w_exit rfl ?_ | refine w_ret ?_ | refine w_rt rfl ?_)
  · exact ⟨rfl, E2.trans hE3⟩
  · exact absurd hc (by decide)

theorem run_ok12 (hO : OffRun O) {h0 : Heap} {m t : List V} {n : Int} {T : TurnT} (hms : m.length = 4 ∧ allOne m = true) (hm : T.over ≠ 0 ∨ ∃ v, m = badM v ∧ RS h0 4 v [emptyFn]) (htv : TurnV t T) : WPc tab.get O 23 [.agg m, .agg t, .int .i64 n] h0 (fun v h' => (∃ c', v = .agg c' ∧ TurnR h' c' T) ∧ Ext h0 h') := by
  refine w_fn' (hO.run _ _) rfl rfl (by simp only [c23, initV, nth] <;> rfl) ?_
  have ht := htv.r h0
  have hs := ht.shape
  refine w_seq (w_reg (w_box rfl hms.1 hms.2 fun iA h1 hA hiA hE1 => ?_))
  refine w_box rfl hs.1 hs.2 fun iB h2 hB hiB hE2 => ?_
  refine w_alloc fun iR h3 hR hiR hE3 => ?_
  have E2 := (hE1.trans hE2).trans hE3
  replace hA : Own h3 iA m := (hA.ext0 hE2).ext0 hE3
  replace hB : Own h3 iB t := hB.ext0 hE3
  have ht3 := ht.ext E2
  have n1 := hE1.1
  have n2 := hE2.1
  have e9 : List.take 9 t = t := List.take_of_length_le (by omega)
  have e4 : List.take 4 m = m := List.take_of_length_le (by omega)
  obtain ⟨vf, ve, vs, lf, rfl, rest⟩ := ht
  clear rest
  repeat' (first | refine w_seq ?_ | refine w_reg ?_ | refine w_end (by simp only [outsV, nth, setV, List.take_succ_cons, List.take_zero, List.length_cons, List.length_nil, Nat.zero_add, Nat.reduceAdd] <;> rfl) ?_ | refine w_off rfl ?_ | refine w_rf rfl (by assumption) (by rfl) (by rfl) (by rfl) ?_ | refine w_rfg rfl rfl (by assumption) (by rfl) (by rfl) (by rfl) (by rfl) ?_ | refine w_on rfl ?_ | refine w_len rfl (by assumption) ?_ | refine w_lssN rfl rfl (fun hc => ?_) (fun hc => ?_) | refine w_leqN rfl rfl (fun hc => ?_) (fun hc => ?_) | refine w_gtrN rfl rfl (fun hc => ?_) (fun hc => ?_) | refine w_geqN rfl rfl (fun hc => ?_) (fun hc => ?_) | refine w_eqlN rfl rfl (fun hc => ?_) (fun hc => ?_) | refine w_neqN rfl rfl (fun hc => ?_) (fun hc => ?_) | refine w_lss rfl rfl (fun hc => ?_) (fun hc => ?_) | refine w_leq rfl rfl (fun hc => ?_) (fun hc => ?_) | refine w_gtr rfl rfl (fun hc => ?_) (fun hc => ?_) | refine w_geq rfl rfl (fun hc => ?_) (fun hc => ?_) | refine w_eql rfl rfl (fun hc => ?_) (fun hc => ?_) | refine w_neq rfl rfl (fun hc => ?_) (fun hc => ?_) | refine w_addN rfl rfl (by omega) ?_ | refine w_opk rfl rfl ?_ | refine w_cond_t rfl ?_ | refine w_cond_f rfl ?_ | refine w_skip ?_ | refine w_exit rfl ?_ | refine w_ret ?_ | refine w_rt rfl ?_)
  · refine w_loadA rfl (hB.at rfl) rfl ?_

    refine w_call rfl ((copied_ok hO.toOffCopied [iR] (by simpa using hR.1) htv).mono fun v' h4 ⟨⟨c', e1, k1⟩, hE4⟩ => ?_)
    subst e1
    have k1s := k1.r.shape
    refine w_store rfl rfl (hR.ext0 hE4) k1s.1 k1s.2 (by decide) (by simp) fun h5 hR5 hE5 hn5 => ?_
    replace hR5 : Own h5 iR c' := by
      have : splice [V.nils, V.nils, nI 0, nI 0, nI 0, nB 0, nI 0, nI 0, V.nils] 0 c' = c' := over_all (by rw [k1s.1]; rfl)
      rw [← this]; exact hR5
    have e9' : List.take 9 c' = c' := List.take_of_length_le (by omega)
    repeat' (first | refine w_seq ?_ | refine w_reg ?_ | refine w_end (by simp only [outsV, nth, setV, List.take_succ_cons, List.take_zero, List.length_cons, List.length_nil, Nat.zero_add, Nat.reduceAdd] <;> rfl) ?_ | refine w_off rfl ?_ | refine w_rf rfl (by assumption) (by rfl) (by rfl) (by rfl) ?_ | refine w_rfg rfl rfl (by assumption) (by rfl) (by rfl) (by rfl) (by rfl) ?_ | refine w_on rfl ?_ | refine w_len rfl (by assumption) ?_ | refine w_lssN rfl rfl (fun hc => ?_) (fun hc => ?_) | refine w_leqN rfl rfl (fun hc => ?_) (fun hc => ?_) | refine w_gtrN rfl rfl (fun hc => ?_) (fun hc => ?_) | refine w_geqN rfl rfl (fun hc => ?_) (fun hc => ?_) | refine w_eqlN rfl rfl (fun hc => ?_) (fun hc => ?_) | refine w_neqN rfl rfl (fun hc => ?_) (fun hc => ?_) | refine w_lss rfl rfl (fun hc => ?_) (fun hc => ?_) | refine w_leq rfl rfl (fun hc => ?_) (fun hc => ?_) | refine w_gtr rfl rfl (fun hc => ?_) (fun hc => ?_) | refine w_geq rfl rfl (fun hc => ?_) (fun hc => ?_) | refine w_eql rfl rfl (fun hc => ?_) (fun hc => ?_) | refine w_neq rfl rfl (fun hc => ?_) (fun hc => ?_) | refine w_addN rfl rfl (by omega) ?_ | refine w_opk rfl rfl ?_ | refine w_cond_t rfl ?_ | refine w_cond_f rfl ?_ | refine w_skip ?_ | refine w_exit rfl ?_ | refine w_ret ?_ | refine w_rt rfl ?_)
    refine w_rt (l := [.agg c']) (by
      show resV _ _ [.cell 3 true 9] = _
      have e1 := (hR5.at (hi := 9) k1s.1).agg (n := 9) (by omega)
      rw [e9'] at e1
      simp only [resV, nth, e1]) ⟨⟨_, rfl, (k1.ext hE5).r⟩, (E2.trans hE4).step hE5 fun jd hjd => by simp at hjd; exact .inr (by omega)⟩

  · have hm' : ∃ v, m = badM v ∧ RS h0 4 v [emptyFn] := by
      rcases hm with h | h
      · exact absurd hc h
      · exact h
    obtain ⟨v, rfl, hv⟩ := hm'
    refine w_loadA rfl (hA.at rfl) rfl ?_
    repeat' (first | refine w_seq ?_ | refine w_reg ?_ | refine w_end (by simp only [outsV, nth, setV, List.take_succ_cons, List.take_zero, List.length_cons, List.length_nil, Nat.zero_add, Nat.reduceAdd] <;> rfl) ?_ | refine w_off rfl ?_ | refine w_rf rfl (by assumption) (by rfl) (by rfl) (by rfl) ?_ | refine w_rfg rfl rfl (by assumption) (by rfl) (by rfl) (by rfl) (by rfl) ?_ | refine w_on rfl ?_ | refine w_len rfl (by assumption) ?_ | refine w_lssN rfl rfl (fun hc => ?_) (fun hc => ?_) | refine w_leqN rfl rfl (fun hc => ?_) (fun hc => ?_) | refine w_gtrN rfl rfl (fun hc => ?_) (fun hc => ?_) | refine w_geqN rfl rfl (fun hc => ?_) (fun hc => ?_) | refine w_eqlN rfl rfl (fun hc => ?_) (fun hc => ?_) | refine w_neqN rfl rfl (fun hc => ?_) (fun hc => ?_) | refine w_lss rfl rfl (fun hc => ?_) (fun hc => ?_) | refine w_leq rfl rfl (fun hc => ?_) (fun hc => ?_) | refine w_gtr rfl rfl (fun hc => ?_) (fun hc => ?_) | refine w_geq rfl rfl (fun hc => ?_) (fun hc => ?_) | refine w_eql rfl rfl (fun hc => ?_) (fun hc => ?_) | refine w_neq rfl rfl (fun hc => ?_) (fun hc => ?_) | refine w_addN rfl rfl (by omega) ?_ | refine w_opk rfl rfl ?_ | refine w_cond_t rfl ?_ | refine w_cond_f rfl ?_ | refine w_skip ?_ | refine w_exit rfl ?_ | refine w_ret ?_ | refine w_rt rfl ?_)
    refine w_loadA rfl (hB.at rfl) rfl ?_
    repeat' (first | refine w_seq ?_ | refine w_reg ?_ | refine w_end (by simp only [outsV, nth, setV, List.take_succ_cons, List.take_zero, List.length_cons, List.length_nil, Nat.zero_add, Nat.reduceAdd] <;> rfl) ?_ | refine w_off rfl ?_ | refine w_rf rfl (by assumption) (by rfl) (by rfl) (by rfl) ?_ | refine w_rfg rfl rfl (by assumption) (by rfl) (by rfl) (by rfl) (by rfl) ?_ | refine w_on rfl ?_ | refine w_len rfl (by assumption) ?_ | refine w_lssN rfl rfl (fun hc => ?_) (fun hc => ?_) | refine w_leqN rfl rfl (fun hc => ?_) (fun hc => ?_) | refine w_gtrN rfl rfl (fun hc => ?_) (fun hc => ?_) | refine w_geqN rfl rfl (fun hc => ?_) (fun hc => ?_) | refine w_eqlN rfl rfl (fun hc => ?_) (fun hc => ?_) | refine w_neqN rfl rfl (fun hc => ?_) (fun hc => ?_) | refine w_lss rfl rfl (fun hc => ?_) (fun hc => ?_) | refine w_leq rfl rfl (fun hc => ?_) (fun hc => ?_) | refine w_gtr rfl rfl (fun hc => ?_) (fun hc => ?_) | refine w_geq rfl rfl (fun hc => ?_) (fun hc => ?_) | refine w_eql rfl rfl (fun hc => ?_) (fun hc => ?_) | refine w_neq rfl rfl (fun hc => ?_) (fun hc => ?_) | refine w_addN rfl rfl (by omega) ?_ | refine w_opk rfl rfl ?_ | refine w_cond_t rfl ?_ | refine w_cond_f rfl ?_ | refine w_skip ?_ | refine w_exit rfl ?_ | refine w_ret ?_ | refine w_rt rfl ?_)
    refine w_call rfl ((right_bad hO.toOffBad (hv.ext0 E2) ht3).mono fun v' h6 ⟨e1, hE6⟩ => ?_)
    subst e1
    replace hR := hR.ext0 hE6
    replace hB := hB.ext0 hE6
    replace E2 := E2.trans hE6
    repeat' (first | refine w_seq ?_ | refine w_reg ?_ | refine w_end (by simp only [outsV, nth, setV, List.take_succ_cons, List.take_zero, List.length_cons, List.length_nil, Nat.zero_add, Nat.reduceAdd] <;> rfl) ?_ | refine w_off rfl ?_ | refine w_rf rfl (by assumption) (by rfl) (by rfl) (by rfl) ?_ | refine w_rfg rfl rfl (by assumption) (by rfl) (by rfl) (by rfl) (by rfl) ?_ | refine w_on rfl ?_ | refine w_len rfl (by assumption) ?_ | refine w_lssN rfl rfl (fun hc => ?_) (fun hc => ?_) | refine w_leqN rfl rfl (fun hc => ?_) (fun hc => ?_) | refine w_gtrN rfl rfl (fun hc => ?_) (fun hc => ?_) | refine w_geqN rfl rfl (fun hc => ?_) (fun hc => ?_) | refine w_eqlN rfl rfl (fun hc => ?_) (fun hc => ?_) | refine w_neqN rfl rfl (fun hc => ?_) (fun hc => ?_) | refine w_lss rfl rfl (fun hc => ?_) (fun hc => ?_) | refine w_leq rfl rfl (fun hc => ?_) (fun hc => ?_) | refine w_gtr rfl rfl (fun hc => ?_) (fun hc => ?_) | refine w_geq rfl rfl (fun hc => ?_) (fun hc => ?_) | refine w_eql rfl rfl (fun hc => ?_) (fun hc => ?_) | refine w_neq rfl rfl (fun hc => ?_) (fun hc => ?_) | refine w_addN rfl rfl (by omega) ?_ | refine w_opk rfl rfl ?_ | refine w_cond_t rfl ?_ | refine w_cond_f rfl ?_ | refine w_skip ?_ | refine w_exit rfl ?_ | refine w_ret ?_ | refine w_rt rfl ?_)
    refine w_loadA rfl (hB.at rfl) rfl ?_

    refine w_call rfl ((copied_ok hO.toOffCopied [iR] (by simpa using hR.1) htv).mono fun v' h4 ⟨⟨c', e1, k1⟩, hE4⟩ => ?_)
    subst e1
    have k1s := k1.r.shape
    refine w_store rfl rfl (hR.ext0 hE4) k1s.1 k1s.2 (by decide) (by simp) fun h5 hR5 hE5 hn5 => ?_
    replace hR5 : Own h5 iR c' := by
      have : splice [V.nils, V.nils, nI 0, nI 0, nI 0, nB 0, nI 0, nI 0, V.nils] 0 c' = c' := over_all (by rw [k1s.1]; rfl)
      rw [← this]; exact hR5
    have e9' : List.take 9 c' = c' := List.take_of_length_le (by omega)
    repeat' (first | refine w_seq ?_ | refine w_reg ?_ | refine w_end (by simp only [outsV, nth, setV, List.take_succ_cons, List.take_zero, List.length_cons, List.length_nil, Nat.zero_add, Nat.reduceAdd] <;> rfl) ?_ | refine w_off rfl ?_ | refine w_rf rfl (by assumption) (by rfl) (by rfl) (by rfl) ?_ | refine w_rfg rfl rfl (by assumption) (by rfl) (by rfl) (by rfl) (by rfl) ?_ | refine w_on rfl ?_ | refine w_len rfl (by assumption) ?_ | refine w_lssN rfl rfl (fun hc => ?_) (fun hc => ?_) | refine w_leqN rfl rfl (fun hc => ?_) (fun hc => ?_) | refine w_gtrN rfl rfl (fun hc => ?_) (fun hc => ?_) | refine w_geqN rfl rfl (fun hc => ?_) (fun hc => ?_) | refine w_eqlN rfl rfl (fun hc => ?_) (fun hc => ?_) | refine w_neqN rfl rfl (fun hc => ?_) (fun hc => ?_) | refine w_lss rfl rfl (fun hc => ?_) (fun hc => ?_) | refine w_leq rfl rfl (fun hc => ?_) (fun hc => ?_) | refine w_gtr rfl rfl (fun hc => ?_) (fun hc => ?_) | refine w_geq rfl rfl (fun hc => ?_) (fun hc => ?_) | refine w_eql rfl rfl (fun hc => ?_) (fun hc => ?_) | refine w_neq rfl rfl (fun hc => ?_) (fun hc => ?_) | refine w_addN rfl rfl (by omega) ?_ | refine w_opk rfl rfl ?_ | refine w_cond_t rfl ?_ | refine w_cond_f rfl ?_ | refine w_skip ?_ | refine w_exit rfl ?_ | refine w_ret ?_ | refine w_rt rfl ?_)
    refine w_rt (l := [.agg c']) (by
      show resV _ _ [.cell 3 true 9] = _
      have e1 := (hR5.at (hi := 9) k1s.1).agg (n := 9) (by omega)
      rw [e9'] at e1
      simp only [resV, nth, e1]) ⟨⟨_, rfl, (k1.ext hE5).r⟩, (E2.trans hE4).step hE5 fun jd hjd => by simp at hjd; exact .inr (by omega)⟩


def turn0 : List V := [.nils, .nils, .int .i64 0, .int .i64 0, .int .i64 0, .int .u8 0, .int .i64 0, .int .i64 0, .nils]

theorem begin_bad (hO : OffRun O) {h0 : Heap} {m a1 a2 a3 a4 a5 a6 : V} (hm : RS h0 4 m [emptyFn]) (o3 : a3.one = true) (o4 : a4.one = true) : WPc tab.get O 21 [.agg (badM m), a1, a2, a3, a4, a5, a6] h0 (fun v h' => v = .tuple [.agg turn0, .int .i64 120] ∧ Ext h0 h') := by
  refine w_fn' (hO.bg m _ _ ?_) rfl rfl (by simp only [c21, initV, nth] <;> rfl) ?_
  · rintro rfl
    have := hm.1
    simp [srcCells] at this
  refine w_seq (w_reg (w_box rfl rfl (by simp only [badM, V.cells, allOne, hm.one]; rfl) fun iA h1 hA hiA hE1 => ?_))
  refine w_box rfl (by rw [V.cells1 o3]; rfl) (by rw [V.cells1 o3]; simp only [allOne, o3]) fun iB h2 hB hiB hE2 => ?_
  refine w_box rfl (by rw [V.cells1 o4]; rfl) (by rw [V.cells1 o4]; simp only [allOne, o4]) fun iC h3 hC hiC hE3 => ?_
  refine w_alloc fun iR h4 hR hiR hE4 => ?_
  have E4 := ((hE1.trans hE2).trans hE3).trans hE4
  replace hA : Own h4 iA (badM m) := ((hA.ext0 hE2).ext0 hE3).ext0 hE4
  have n1 := hE1.1
  have n2 := hE2.1
  have n3 := hE3.1
  repeat' (first | refine w_seq ?_ | refine w_reg ?_ | refine w_end (by simp only [outsV, nth, setV, List.take_succ_cons, List.take_zero, List.length_cons, List.length_nil, Nat.zero_add, Nat.reduceAdd] <;> rfl) ?_ | refine w_off rfl ?_ | refine w_rf rfl (by assumption) (by rfl) (by rfl) (by rfl) ?_ | refine w_rfg rfl rfl (by assumption) (by rfl) (by rfl) (by rfl) (by rfl) ?_ | refine w_on rfl ?_ | refine w_len rfl (by assumption) ?_ | refine w_lssN rfl rfl (fun hc => ?_) (fun hc => ?_) | refine w_leqN rfl rfl (fun hc => ?_) (fun hc => ?_) | refine w_gtrN rfl rfl (fun hc => ?_) (fun hc => ?_) | refine w_geqN rfl rfl (fun hc => ?_) (fun hc => ?_) | refine w_eqlN rfl rfl (fun hc => ?_) (fun hc => ?_) | refine w_neqN rfl rfl (fun hc => ?_) (fun hc => ?_) | refine w_lss rfl rfl (fun hc => ?_) (fun hc => ?_) | refine w_leq rfl rfl (fun hc => ?_) (fun hc => ?_) | refine w_gtr rfl rfl (fun hc => ?_) (fun hc => ?_) | refine w_geq rfl rfl (fun hc => ?_) (fun hc => ?_) | refine w_eql rfl rfl (fun hc => ?_) (fun hc => ?_) | refine w_neq rfl rfl (fun hc => ?_) (fun hc => ?_) | refine w_addN rfl rfl (by omega) ?_ | refine w_opk rfl rfl ?_ | refine w_cond_t rfl ?_ | refine w_cond_f rfl ?_ | refine w_skip ?_ | refine w_exit rfl ?_ | refine w_ret ?_ | refine w_rt rfl ?_)
  refine w_loadA rfl (hA.at rfl) rfl ?_
  refine w_callA [.agg (badM m)] rfl ((check_bad hO.toOffBad (hm.ext0 E4)).mono fun v' h5 ⟨e1, hE5⟩ => ?_)
  subst e1
  repeat' (first | refine w_seq ?_ | refine w_reg ?_ | refine w_end (by simp only [outsV, nth, setV, List.take_succ_cons, List.take_zero, List.length_cons, List.length_nil, Nat.zero_add, Nat.reduceAdd] <;> rfl) ?_ | refine w_off rfl ?_ | refine w_rf rfl (by assumption) (by rfl) (by rfl) (by rfl) ?_ | refine w_rfg rfl rfl (by assumption) (by rfl) (by rfl) (by rfl) (by rfl) ?_ | refine w_on rfl ?_ | refine w_len rfl (by assumption) ?_ | refine w_lssN rfl rfl (fun hc => ?_) (fun hc => ?_) | refine w_leqN rfl rfl (fun hc => ?_) (fun hc => ?_) | refine w_gtrN rfl rfl (fun hc => ?_) (fun hc => ?_) | refine w_geqN rfl rfl (fun hc => ?_) (fun hc => ?_) | refine w_eqlN rfl rfl (fun hc => ?_) (fun hc => ?_) | refine w_neqN rfl rfl (fun hc => ?_) (fun hc => ?_) | refine w_lss rfl rfl (fun hc => ?_) (fun hc => ?_) | refine w_leq rfl rfl (fun hc => ?_) (fun hc => ?_) | refine w_gtr rfl rfl (fun hc => ?_) (fun hc => ?_) | refine w_geq rfl rfl (fun hc => ?_) (fun hc => ?_) | refine w_eql rfl rfl (fun hc => ?_) (fun hc => ?_) | refine w_neq rfl rfl (fun hc => ?_) (fun hc => ?_) | refine w_addN rfl rfl (by omega) ?_ | refine w_opk rfl rfl ?_ | refine w_cond_t rfl ?_ | refine w_cond_f rfl ?_ | refine w_skip ?_ | refine w_exit rfl ?_ | refine w_ret ?_ | refine w_rt rfl ?_)
  · refine w_build turn0 rfl rfl ?_
    repeat' (first | refine w_seq ?_ | refine w_reg ?_ | refine w_end (by simp only [outsV, nth, setV, List.take_succ_cons, List.take_zero, List.length_cons, List.length_nil, Nat.zero_add, Nat.reduceAdd] <;> rfl) ?_ | refine w_off rfl ?_ | refine w_rf rfl (by assumption) (by rfl) (by rfl) (by rfl) ?_ | refine w_rfg rfl rfl (by assumption) (by rfl) (by rfl) (by rfl) (by rfl) ?_ | refine w_on rfl ?_ | refine w_len rfl (by assumption) ?_ | refine w_lssN rfl rfl (fun hc => ?_) (fun hc => ?_) | refine w_leqN rfl rfl (fun hc => ?_) (fun hc => ?_) | refine w_gtrN rfl rfl (fun hc => ?_) (fun hc => ?_) | refine w_geqN rfl rfl (fun hc => ?_) (fun hc => ?_) | refine w_eqlN rfl rfl (fun hc => ?_) (fun hc => ?_) | refine w_neqN rfl rfl (fun hc => ?_) (fun hc => ?_) | refine w_lss rfl rfl (fun hc => ?_) (fun hc => ?_) | refine w_leq rfl rfl (fun hc => ?_) (fun hc => ?_) | refine w_gtr rfl rfl (fun hc => ?_) (fun hc => ?_) | refine w_geq rfl rfl (fun hc => ?_) (fun hc => ?_) | refine w_eql rfl rfl (fun hc => ?_) (fun hc => ?_) | refine w_neq rfl rfl (fun hc => ?_) (fun hc => ?_) | refine w_addN rfl rfl (by omega) ?_ | refine w_opk rfl rfl ?_ | refine w_cond_t rfl ?_ | refine w_cond_f rfl ?_ | refine w_skip ?_ | refine w_exit rfl ?_ | refine w_ret ?_ | refine w_rt rfl ?_)
    refine w_store rfl rfl (hR.ext0 hE5) rfl rfl (by decide) (by simp) fun h6 hR6 hE6 hn6 => ?_
    replace hR6 : Own h6 iR turn0 := hR6
    repeat' (first | refine w_seq ?_ | refine w_reg ?_ | refine w_end (by simp only [outsV, nth, setV, List.take_succ_cons, List.take_zero, List.length_cons, List.length_nil, Nat.zero_add, Nat.reduceAdd] <;> rfl) ?_ | refine w_off rfl ?_ | refine w_rf rfl (by assumption) (by rfl) (by rfl) (by rfl) ?_ | refine w_rfg rfl rfl (by assumption) (by rfl) (by rfl) (by rfl) (by rfl) ?_ | refine w_on rfl ?_ | refine w_len rfl (by assumption) ?_ | refine w_lssN rfl rfl (fun hc => ?_) (fun hc => ?_) | refine w_leqN rfl rfl (fun hc => ?_) (fun hc => ?_) | refine w_gtrN rfl rfl (fun hc => ?_) (fun hc => ?_) | refine w_geqN rfl rfl (fun hc => ?_) (fun hc => ?_) | refine w_eqlN rfl rfl (fun hc => ?_) (fun hc => ?_) | refine w_neqN rfl rfl (fun hc => ?_) (fun hc => ?_) | refine w_lss rfl rfl (fun hc => ?_) (fun hc => ?_) | refine w_leq rfl rfl (fun hc => ?_) (fun hc => ?_) | refine w_gtr rfl rfl (fun hc => ?_) (fun hc => ?_) | refine w_geq rfl rfl (fun hc => ?_) (fun hc => ?_) | refine w_eql rfl rfl (fun hc => ?_) (fun hc => ?_) | refine w_neq rfl rfl (fun hc => ?_) (fun hc => ?_) | refine w_addN rfl rfl (by omega) ?_ | refine w_opk rfl rfl ?_ | refine w_cond_t rfl ?_ | refine w_cond_f rfl ?_ | refine w_skip ?_ | refine w_exit rfl ?_ | refine w_ret ?_ | refine w_rt rfl ?_)
    refine w_rt (l := [.agg turn0, .int .i64 120]) (by
      show resV _ _ [.cell 7 true 9, .var 8] = _
      have e1 := (hR6.at (hi := 9) rfl).agg (n := 9) (Nat.le_refl 9)
      simp only [resV, nth, e1]
      rfl) ⟨rfl, (E4.trans hE5).step hE6 fun jd hjd => by simp at hjd; exact .inr (by omega)⟩
  · exact absurd hc (by decide)
end AmT
