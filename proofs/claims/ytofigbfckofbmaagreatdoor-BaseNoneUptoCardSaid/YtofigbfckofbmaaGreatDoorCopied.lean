/-
  base.copied at any turn: it holds the same. Conditions: none.
-/
import Derived.Test.YtofigbfckofbmaaGreatDoorTurn
namespace AmT
open Go Am
set_option maxRecDepth 100000
set_option maxHeartbeats 4000000
set_option linter.unusedSimpArgs false
set_option linter.unusedVariables false
variable {O : CallF}


theorem cloneVal_ok (hO : ∀ a h, O 48 a h = none) {h0 : Heap} {v : V} {l : List (List V)} (hv : RS h0 4 v l) (hl : l.length ≤ 4294967296) :
    WPc tab.get O 48 [v] h0 (fun w h' => Ow h' 4 w l ∧ Ext h0 h' ∧ ∀ j ∈ slIds w, h0.n ≤ j) := by
  refine w_fn' (hO _ _) rfl rfl (by simp only [c48, initV, nth] <;> rfl) ?_
  refine w_seq (w_reg ?_)
  repeat' (first | refine w_seq ?_ | refine w_reg ?_ | refine w_end (by simp only [outsV, nth, setV, List.take_succ_cons, List.take_zero, List.length_cons, List.length_nil, Nat.zero_add, Nat.reduceAdd] <;> rfl) ?_ | refine w_off rfl ?_ | refine w_rf rfl (by assumption) (by rfl) (by rfl) (by rfl) ?_ | refine w_rfg rfl rfl (by assumption) (by rfl) (by rfl) (by rfl) (by rfl) ?_ | refine w_on rfl ?_ | refine w_len rfl (by assumption) ?_ | refine w_lssN rfl rfl (fun hc => ?_) (fun hc => ?_) | refine w_leqN rfl rfl (fun hc => ?_) (fun hc => ?_) | refine w_gtrN rfl rfl (fun hc => ?_) (fun hc => ?_) | refine w_geqN rfl rfl (fun hc => ?_) (fun hc => ?_) | refine w_eqlN rfl rfl (fun hc => ?_) (fun hc => ?_) | refine w_neqN rfl rfl (fun hc => ?_) (fun hc => ?_) | refine w_lss rfl rfl (fun hc => ?_) (fun hc => ?_) | refine w_leq rfl rfl (fun hc => ?_) (fun hc => ?_) | refine w_gtr rfl rfl (fun hc => ?_) (fun hc => ?_) | refine w_geq rfl rfl (fun hc => ?_) (fun hc => ?_) | refine w_eql rfl rfl (fun hc => ?_) (fun hc => ?_) | refine w_neq rfl rfl (fun hc => ?_) (fun hc => ?_) | refine w_addN rfl rfl (by omega) ?_ | refine w_opk rfl rfl ?_ | refine w_cond_t rfl ?_ | refine w_cond_f rfl ?_ | refine w_skip ?_ | refine w_exit rfl ?_ | refine w_ret ?_ | refine w_rt rfl ?_)
  refine w_isnil rfl hv (fun e => ?_) (fun e => ?_)
  · subst e
    have hl0 : l = [] := by
      have := hv.1
      simp only [srcCells, Option.some.injEq, Prod.mk.injEq] at this
      exact List.eq_nil_of_length_eq_zero this.1.symm
    subst hl0
    repeat' (first | refine w_seq ?_ | refine w_reg ?_ | refine w_end (by simp only [outsV, nth, setV, List.take_succ_cons, List.take_zero, List.length_cons, List.length_nil, Nat.zero_add, Nat.reduceAdd] <;> rfl) ?_ | refine w_off rfl ?_ | refine w_rf rfl (by assumption) (by rfl) (by rfl) (by rfl) ?_ | refine w_rfg rfl rfl (by assumption) (by rfl) (by rfl) (by rfl) (by rfl) ?_ | refine w_on rfl ?_ | refine w_len rfl (by assumption) ?_ | refine w_lssN rfl rfl (fun hc => ?_) (fun hc => ?_) | refine w_leqN rfl rfl (fun hc => ?_) (fun hc => ?_) | refine w_gtrN rfl rfl (fun hc => ?_) (fun hc => ?_) | refine w_geqN rfl rfl (fun hc => ?_) (fun hc => ?_) | refine w_eqlN rfl rfl (fun hc => ?_) (fun hc => ?_) | refine w_neqN rfl rfl (fun hc => ?_) (fun hc => ?_) | refine w_lss rfl rfl (fun hc => ?_) (fun hc => ?_) | refine w_leq rfl rfl (fun hc => ?_) (fun hc => ?_) | refine w_gtr rfl rfl (fun hc => ?_) (fun hc => ?_) | refine w_geq rfl rfl (fun hc => ?_) (fun hc => ?_) | refine w_eql rfl rfl (fun hc => ?_) (fun hc => ?_) | refine w_neq rfl rfl (fun hc => ?_) (fun hc => ?_) | refine w_addN rfl rfl (by omega) ?_ | refine w_opk rfl rfl ?_ | refine w_cond_t rfl ?_ | refine w_cond_f rfl ?_ | refine w_skip ?_ | refine w_exit rfl ?_ | refine w_ret ?_ | refine w_rt rfl ?_)
    exact ⟨Ow.nils _ _, ExtX.refl _ _, by simp [slIds, packV]⟩
  · repeat' (first | refine w_seq ?_ | refine w_reg ?_ | refine w_end (by simp only [outsV, nth, setV, List.take_succ_cons, List.take_zero, List.length_cons, List.length_nil, Nat.zero_add, Nat.reduceAdd] <;> rfl) ?_ | refine w_off rfl ?_ | refine w_rf rfl (by assumption) (by rfl) (by rfl) (by rfl) ?_ | refine w_rfg rfl rfl (by assumption) (by rfl) (by rfl) (by rfl) (by rfl) ?_ | refine w_on rfl ?_ | refine w_len rfl (by assumption) ?_ | refine w_lssN rfl rfl (fun hc => ?_) (fun hc => ?_) | refine w_leqN rfl rfl (fun hc => ?_) (fun hc => ?_) | refine w_gtrN rfl rfl (fun hc => ?_) (fun hc => ?_) | refine w_geqN rfl rfl (fun hc => ?_) (fun hc => ?_) | refine w_eqlN rfl rfl (fun hc => ?_) (fun hc => ?_) | refine w_neqN rfl rfl (fun hc => ?_) (fun hc => ?_) | refine w_lss rfl rfl (fun hc => ?_) (fun hc => ?_) | refine w_leq rfl rfl (fun hc => ?_) (fun hc => ?_) | refine w_gtr rfl rfl (fun hc => ?_) (fun hc => ?_) | refine w_geq rfl rfl (fun hc => ?_) (fun hc => ?_) | refine w_eql rfl rfl (fun hc => ?_) (fun hc => ?_) | refine w_neq rfl rfl (fun hc => ?_) (fun hc => ?_) | refine w_addN rfl rfl (by omega) ?_ | refine w_opk rfl rfl ?_ | refine w_cond_t rfl ?_ | refine w_cond_f rfl ?_ | refine w_skip ?_ | refine w_exit rfl ?_ | refine w_ret ?_ | refine w_rt rfl ?_)
    refine w_bslice [] rfl (by rfl) rfl rfl (by simp) fun e0 h1 he0 hf1 => ?_
    have he0n : ∀ j ∈ slIds e0, h0.n ≤ j := fun j hj => by
      rcases hf1.2 j hj with e | e
      · cases e
      · exact e
    repeat' (first | refine w_seq ?_ | refine w_reg ?_ | refine w_end (by simp only [outsV, nth, setV, List.take_succ_cons, List.take_zero, List.length_cons, List.length_nil, Nat.zero_add, Nat.reduceAdd] <;> rfl) ?_ | refine w_off rfl ?_ | refine w_rf rfl (by assumption) (by rfl) (by rfl) (by rfl) ?_ | refine w_rfg rfl rfl (by assumption) (by rfl) (by rfl) (by rfl) (by rfl) ?_ | refine w_on rfl ?_ | refine w_len rfl (by assumption) ?_ | refine w_lssN rfl rfl (fun hc => ?_) (fun hc => ?_) | refine w_leqN rfl rfl (fun hc => ?_) (fun hc => ?_) | refine w_gtrN rfl rfl (fun hc => ?_) (fun hc => ?_) | refine w_geqN rfl rfl (fun hc => ?_) (fun hc => ?_) | refine w_eqlN rfl rfl (fun hc => ?_) (fun hc => ?_) | refine w_neqN rfl rfl (fun hc => ?_) (fun hc => ?_) | refine w_lss rfl rfl (fun hc => ?_) (fun hc => ?_) | refine w_leq rfl rfl (fun hc => ?_) (fun hc => ?_) | refine w_gtr rfl rfl (fun hc => ?_) (fun hc => ?_) | refine w_geq rfl rfl (fun hc => ?_) (fun hc => ?_) | refine w_eql rfl rfl (fun hc => ?_) (fun hc => ?_) | refine w_neq rfl rfl (fun hc => ?_) (fun hc => ?_) | refine w_addN rfl rfl (by omega) ?_ | refine w_opk rfl rfl ?_ | refine w_cond_t rfl ?_ | refine w_cond_f rfl ?_ | refine w_skip ?_ | refine w_exit rfl ?_ | refine w_ret ?_ | refine w_rt rfl ?_)
    refine w_app rfl rfl he0 (hv.ext0 hf1.ext0) (by simpa using hl) fun w h2 hw hf2 => ?_
    rw [List.nil_append] at hw
    repeat' (first | refine w_seq ?_ | refine w_reg ?_ | refine w_end (by simp only [outsV, nth, setV, List.take_succ_cons, List.take_zero, List.length_cons, List.length_nil, Nat.zero_add, Nat.reduceAdd] <;> rfl) ?_ | refine w_off rfl ?_ | refine w_rf rfl (by assumption) (by rfl) (by rfl) (by rfl) ?_ | refine w_rfg rfl rfl (by assumption) (by rfl) (by rfl) (by rfl) (by rfl) ?_ | refine w_on rfl ?_ | refine w_len rfl (by assumption) ?_ | refine w_lssN rfl rfl (fun hc => ?_) (fun hc => ?_) | refine w_leqN rfl rfl (fun hc => ?_) (fun hc => ?_) | refine w_gtrN rfl rfl (fun hc => ?_) (fun hc => ?_) | refine w_geqN rfl rfl (fun hc => ?_) (fun hc => ?_) | refine w_eqlN rfl rfl (fun hc => ?_) (fun hc => ?_) | refine w_neqN rfl rfl (fun hc => ?_) (fun hc => ?_) | refine w_lss rfl rfl (fun hc => ?_) (fun hc => ?_) | refine w_leq rfl rfl (fun hc => ?_) (fun hc => ?_) | refine w_gtr rfl rfl (fun hc => ?_) (fun hc => ?_) | refine w_geq rfl rfl (fun hc => ?_) (fun hc => ?_) | refine w_eql rfl rfl (fun hc => ?_) (fun hc => ?_) | refine w_neq rfl rfl (fun hc => ?_) (fun hc => ?_) | refine w_addN rfl rfl (by omega) ?_ | refine w_opk rfl rfl ?_ | refine w_cond_t rfl ?_ | refine w_cond_f rfl ?_ | refine w_skip ?_ | refine w_exit rfl ?_ | refine w_ret ?_ | refine w_rt rfl ?_)
    refine ⟨hw, hf1.ext0.step hf2.1 fun j hj => .inr (he0n j hj), fun j hj => ?_⟩
    rcases hf2.2 j hj with e | e
    · exact he0n j e
    · have := hf1.1.1; omega


theorem cloneEff_ok (hO : ∀ a h, O 86 a h = none) {h0 : Heap} {v : V} {l : List (List V)} (hv : RS h0 4 v l) (hl : l.length ≤ 4294967296) :
    WPc tab.get O 86 [v] h0 (fun w h' => Ow h' 4 w l ∧ Ext h0 h' ∧ ∀ j ∈ slIds w, h0.n ≤ j) := by
  refine w_fn' (hO _ _) rfl rfl (by simp only [c86, initV, nth] <;> rfl) ?_
  refine w_seq (w_reg ?_)
  repeat' (first | refine w_seq ?_ | refine w_reg ?_ | refine w_end (by simp only [outsV, nth, setV, List.take_succ_cons, List.take_zero, List.length_cons, List.length_nil, Nat.zero_add, Nat.reduceAdd] <;> rfl) ?_ | refine w_off rfl ?_ | refine w_rf rfl (by assumption) (by rfl) (by rfl) (by rfl) ?_ | refine w_rfg rfl rfl (by assumption) (by rfl) (by rfl) (by rfl) (by rfl) ?_ | refine w_on rfl ?_ | refine w_len rfl (by assumption) ?_ | refine w_lssN rfl rfl (fun hc => ?_) (fun hc => ?_) | refine w_leqN rfl rfl (fun hc => ?_) (fun hc => ?_) | refine w_gtrN rfl rfl (fun hc => ?_) (fun hc => ?_) | refine w_geqN rfl rfl (fun hc => ?_) (fun hc => ?_) | refine w_eqlN rfl rfl (fun hc => ?_) (fun hc => ?_) | refine w_neqN rfl rfl (fun hc => ?_) (fun hc => ?_) | refine w_lss rfl rfl (fun hc => ?_) (fun hc => ?_) | refine w_leq rfl rfl (fun hc => ?_) (fun hc => ?_) | refine w_gtr rfl rfl (fun hc => ?_) (fun hc => ?_) | refine w_geq rfl rfl (fun hc => ?_) (fun hc => ?_) | refine w_eql rfl rfl (fun hc => ?_) (fun hc => ?_) | refine w_neq rfl rfl (fun hc => ?_) (fun hc => ?_) | refine w_addN rfl rfl (by omega) ?_ | refine w_opk rfl rfl ?_ | refine w_cond_t rfl ?_ | refine w_cond_f rfl ?_ | refine w_skip ?_ | refine w_exit rfl ?_ | refine w_ret ?_ | refine w_rt rfl ?_)
  refine w_isnil rfl hv (fun e => ?_) (fun e => ?_)
  · subst e
    have hl0 : l = [] := by
      have := hv.1
      simp only [srcCells, Option.some.injEq, Prod.mk.injEq] at this
      exact List.eq_nil_of_length_eq_zero this.1.symm
    subst hl0
    repeat' (first | refine w_seq ?_ | refine w_reg ?_ | refine w_end (by simp only [outsV, nth, setV, List.take_succ_cons, List.take_zero, List.length_cons, List.length_nil, Nat.zero_add, Nat.reduceAdd] <;> rfl) ?_ | refine w_off rfl ?_ | refine w_rf rfl (by assumption) (by rfl) (by rfl) (by rfl) ?_ | refine w_rfg rfl rfl (by assumption) (by rfl) (by rfl) (by rfl) (by rfl) ?_ | refine w_on rfl ?_ | refine w_len rfl (by assumption) ?_ | refine w_lssN rfl rfl (fun hc => ?_) (fun hc => ?_) | refine w_leqN rfl rfl (fun hc => ?_) (fun hc => ?_) | refine w_gtrN rfl rfl (fun hc => ?_) (fun hc => ?_) | refine w_geqN rfl rfl (fun hc => ?_) (fun hc => ?_) | refine w_eqlN rfl rfl (fun hc => ?_) (fun hc => ?_) | refine w_neqN rfl rfl (fun hc => ?_) (fun hc => ?_) | refine w_lss rfl rfl (fun hc => ?_) (fun hc => ?_) | refine w_leq rfl rfl (fun hc => ?_) (fun hc => ?_) | refine w_gtr rfl rfl (fun hc => ?_) (fun hc => ?_) | refine w_geq rfl rfl (fun hc => ?_) (fun hc => ?_) | refine w_eql rfl rfl (fun hc => ?_) (fun hc => ?_) | refine w_neq rfl rfl (fun hc => ?_) (fun hc => ?_) | refine w_addN rfl rfl (by omega) ?_ | refine w_opk rfl rfl ?_ | refine w_cond_t rfl ?_ | refine w_cond_f rfl ?_ | refine w_skip ?_ | refine w_exit rfl ?_ | refine w_ret ?_ | refine w_rt rfl ?_)
    exact ⟨Ow.nils _ _, ExtX.refl _ _, by simp [slIds, packV]⟩
  · repeat' (first | refine w_seq ?_ | refine w_reg ?_ | refine w_end (by simp only [outsV, nth, setV, List.take_succ_cons, List.take_zero, List.length_cons, List.length_nil, Nat.zero_add, Nat.reduceAdd] <;> rfl) ?_ | refine w_off rfl ?_ | refine w_rf rfl (by assumption) (by rfl) (by rfl) (by rfl) ?_ | refine w_rfg rfl rfl (by assumption) (by rfl) (by rfl) (by rfl) (by rfl) ?_ | refine w_on rfl ?_ | refine w_len rfl (by assumption) ?_ | refine w_lssN rfl rfl (fun hc => ?_) (fun hc => ?_) | refine w_leqN rfl rfl (fun hc => ?_) (fun hc => ?_) | refine w_gtrN rfl rfl (fun hc => ?_) (fun hc => ?_) | refine w_geqN rfl rfl (fun hc => ?_) (fun hc => ?_) | refine w_eqlN rfl rfl (fun hc => ?_) (fun hc => ?_) | refine w_neqN rfl rfl (fun hc => ?_) (fun hc => ?_) | refine w_lss rfl rfl (fun hc => ?_) (fun hc => ?_) | refine w_leq rfl rfl (fun hc => ?_) (fun hc => ?_) | refine w_gtr rfl rfl (fun hc => ?_) (fun hc => ?_) | refine w_geq rfl rfl (fun hc => ?_) (fun hc => ?_) | refine w_eql rfl rfl (fun hc => ?_) (fun hc => ?_) | refine w_neq rfl rfl (fun hc => ?_) (fun hc => ?_) | refine w_addN rfl rfl (by omega) ?_ | refine w_opk rfl rfl ?_ | refine w_cond_t rfl ?_ | refine w_cond_f rfl ?_ | refine w_skip ?_ | refine w_exit rfl ?_ | refine w_ret ?_ | refine w_rt rfl ?_)
    refine w_bslice [] rfl (by rfl) rfl rfl (by simp) fun e0 h1 he0 hf1 => ?_
    have he0n : ∀ j ∈ slIds e0, h0.n ≤ j := fun j hj => by
      rcases hf1.2 j hj with e | e
      · cases e
      · exact e
    repeat' (first | refine w_seq ?_ | refine w_reg ?_ | refine w_end (by simp only [outsV, nth, setV, List.take_succ_cons, List.take_zero, List.length_cons, List.length_nil, Nat.zero_add, Nat.reduceAdd] <;> rfl) ?_ | refine w_off rfl ?_ | refine w_rf rfl (by assumption) (by rfl) (by rfl) (by rfl) ?_ | refine w_rfg rfl rfl (by assumption) (by rfl) (by rfl) (by rfl) (by rfl) ?_ | refine w_on rfl ?_ | refine w_len rfl (by assumption) ?_ | refine w_lssN rfl rfl (fun hc => ?_) (fun hc => ?_) | refine w_leqN rfl rfl (fun hc => ?_) (fun hc => ?_) | refine w_gtrN rfl rfl (fun hc => ?_) (fun hc => ?_) | refine w_geqN rfl rfl (fun hc => ?_) (fun hc => ?_) | refine w_eqlN rfl rfl (fun hc => ?_) (fun hc => ?_) | refine w_neqN rfl rfl (fun hc => ?_) (fun hc => ?_) | refine w_lss rfl rfl (fun hc => ?_) (fun hc => ?_) | refine w_leq rfl rfl (fun hc => ?_) (fun hc => ?_) | refine w_gtr rfl rfl (fun hc => ?_) (fun hc => ?_) | refine w_geq rfl rfl (fun hc => ?_) (fun hc => ?_) | refine w_eql rfl rfl (fun hc => ?_) (fun hc => ?_) | refine w_neq rfl rfl (fun hc => ?_) (fun hc => ?_) | refine w_addN rfl rfl (by omega) ?_ | refine w_opk rfl rfl ?_ | refine w_cond_t rfl ?_ | refine w_cond_f rfl ?_ | refine w_skip ?_ | refine w_exit rfl ?_ | refine w_ret ?_ | refine w_rt rfl ?_)
    refine w_app rfl rfl he0 (hv.ext0 hf1.ext0) (by simpa using hl) fun w h2 hw hf2 => ?_
    rw [List.nil_append] at hw
    repeat' (first | refine w_seq ?_ | refine w_reg ?_ | refine w_end (by simp only [outsV, nth, setV, List.take_succ_cons, List.take_zero, List.length_cons, List.length_nil, Nat.zero_add, Nat.reduceAdd] <;> rfl) ?_ | refine w_off rfl ?_ | refine w_rf rfl (by assumption) (by rfl) (by rfl) (by rfl) ?_ | refine w_rfg rfl rfl (by assumption) (by rfl) (by rfl) (by rfl) (by rfl) ?_ | refine w_on rfl ?_ | refine w_len rfl (by assumption) ?_ | refine w_lssN rfl rfl (fun hc => ?_) (fun hc => ?_) | refine w_leqN rfl rfl (fun hc => ?_) (fun hc => ?_) | refine w_gtrN rfl rfl (fun hc => ?_) (fun hc => ?_) | refine w_geqN rfl rfl (fun hc => ?_) (fun hc => ?_) | refine w_eqlN rfl rfl (fun hc => ?_) (fun hc => ?_) | refine w_neqN rfl rfl (fun hc => ?_) (fun hc => ?_) | refine w_lss rfl rfl (fun hc => ?_) (fun hc => ?_) | refine w_leq rfl rfl (fun hc => ?_) (fun hc => ?_) | refine w_gtr rfl rfl (fun hc => ?_) (fun hc => ?_) | refine w_geq rfl rfl (fun hc => ?_) (fun hc => ?_) | refine w_eql rfl rfl (fun hc => ?_) (fun hc => ?_) | refine w_neq rfl rfl (fun hc => ?_) (fun hc => ?_) | refine w_addN rfl rfl (by omega) ?_ | refine w_opk rfl rfl ?_ | refine w_cond_t rfl ?_ | refine w_cond_f rfl ?_ | refine w_skip ?_ | refine w_exit rfl ?_ | refine w_ret ?_ | refine w_rt rfl ?_)
    refine ⟨hw, hf1.ext0.step hf2.1 fun j hj => .inr (he0n j hj), fun j hj => ?_⟩
    rcases hf2.2 j hj with e | e
    · exact he0n j e
    · have := hf1.1.1; omega


theorem cloneFrame_ok (hO : ∀ a h, O 87 a h = none) {h0 : Heap} {v : V} {l : List (List V)} (hv : RS h0 4 v l) (hl : l.length ≤ 4294967296) :
    WPc tab.get O 87 [v] h0 (fun w h' => Ow h' 4 w l ∧ Ext h0 h' ∧ ∀ j ∈ slIds w, h0.n ≤ j) := by
  refine w_fn' (hO _ _) rfl rfl (by simp only [c87, initV, nth] <;> rfl) ?_
  refine w_seq (w_reg ?_)
  repeat' (first | refine w_seq ?_ | refine w_reg ?_ | refine w_end (by simp only [outsV, nth, setV, List.take_succ_cons, List.take_zero, List.length_cons, List.length_nil, Nat.zero_add, Nat.reduceAdd] <;> rfl) ?_ | refine w_off rfl ?_ | refine w_rf rfl (by assumption) (by rfl) (by rfl) (by rfl) ?_ | refine w_rfg rfl rfl (by assumption) (by rfl) (by rfl) (by rfl) (by rfl) ?_ | refine w_on rfl ?_ | refine w_len rfl (by assumption) ?_ | refine w_lssN rfl rfl (fun hc => ?_) (fun hc => ?_) | refine w_leqN rfl rfl (fun hc => ?_) (fun hc => ?_) | refine w_gtrN rfl rfl (fun hc => ?_) (fun hc => ?_) | refine w_geqN rfl rfl (fun hc => ?_) (fun hc => ?_) | refine w_eqlN rfl rfl (fun hc => ?_) (fun hc => ?_) | refine w_neqN rfl rfl (fun hc => ?_) (fun hc => ?_) | refine w_lss rfl rfl (fun hc => ?_) (fun hc => ?_) | refine w_leq rfl rfl (fun hc => ?_) (fun hc => ?_) | refine w_gtr rfl rfl (fun hc => ?_) (fun hc => ?_) | refine w_geq rfl rfl (fun hc => ?_) (fun hc => ?_) | refine w_eql rfl rfl (fun hc => ?_) (fun hc => ?_) | refine w_neq rfl rfl (fun hc => ?_) (fun hc => ?_) | refine w_addN rfl rfl (by omega) ?_ | refine w_opk rfl rfl ?_ | refine w_cond_t rfl ?_ | refine w_cond_f rfl ?_ | refine w_skip ?_ | refine w_exit rfl ?_ | refine w_ret ?_ | refine w_rt rfl ?_)
  refine w_isnil rfl hv (fun e => ?_) (fun e => ?_)
  · subst e
    have hl0 : l = [] := by
      have := hv.1
      simp only [srcCells, Option.some.injEq, Prod.mk.injEq] at this
      exact List.eq_nil_of_length_eq_zero this.1.symm
    subst hl0
    repeat' (first | refine w_seq ?_ | refine w_reg ?_ | refine w_end (by simp only [outsV, nth, setV, List.take_succ_cons, List.take_zero, List.length_cons, List.length_nil, Nat.zero_add, Nat.reduceAdd] <;> rfl) ?_ | refine w_off rfl ?_ | refine w_rf rfl (by assumption) (by rfl) (by rfl) (by rfl) ?_ | refine w_rfg rfl rfl (by assumption) (by rfl) (by rfl) (by rfl) (by rfl) ?_ | refine w_on rfl ?_ | refine w_len rfl (by assumption) ?_ | refine w_lssN rfl rfl (fun hc => ?_) (fun hc => ?_) | refine w_leqN rfl rfl (fun hc => ?_) (fun hc => ?_) | refine w_gtrN rfl rfl (fun hc => ?_) (fun hc => ?_) | refine w_geqN rfl rfl (fun hc => ?_) (fun hc => ?_) | refine w_eqlN rfl rfl (fun hc => ?_) (fun hc => ?_) | refine w_neqN rfl rfl (fun hc => ?_) (fun hc => ?_) | refine w_lss rfl rfl (fun hc => ?_) (fun hc => ?_) | refine w_leq rfl rfl (fun hc => ?_) (fun hc => ?_) | refine w_gtr rfl rfl (fun hc => ?_) (fun hc => ?_) | refine w_geq rfl rfl (fun hc => ?_) (fun hc => ?_) | refine w_eql rfl rfl (fun hc => ?_) (fun hc => ?_) | refine w_neq rfl rfl (fun hc => ?_) (fun hc => ?_) | refine w_addN rfl rfl (by omega) ?_ | refine w_opk rfl rfl ?_ | refine w_cond_t rfl ?_ | refine w_cond_f rfl ?_ | refine w_skip ?_ | refine w_exit rfl ?_ | refine w_ret ?_ | refine w_rt rfl ?_)
    exact ⟨Ow.nils _ _, ExtX.refl _ _, by simp [slIds, packV]⟩
  · repeat' (first | refine w_seq ?_ | refine w_reg ?_ | refine w_end (by simp only [outsV, nth, setV, List.take_succ_cons, List.take_zero, List.length_cons, List.length_nil, Nat.zero_add, Nat.reduceAdd] <;> rfl) ?_ | refine w_off rfl ?_ | refine w_rf rfl (by assumption) (by rfl) (by rfl) (by rfl) ?_ | refine w_rfg rfl rfl (by assumption) (by rfl) (by rfl) (by rfl) (by rfl) ?_ | refine w_on rfl ?_ | refine w_len rfl (by assumption) ?_ | refine w_lssN rfl rfl (fun hc => ?_) (fun hc => ?_) | refine w_leqN rfl rfl (fun hc => ?_) (fun hc => ?_) | refine w_gtrN rfl rfl (fun hc => ?_) (fun hc => ?_) | refine w_geqN rfl rfl (fun hc => ?_) (fun hc => ?_) | refine w_eqlN rfl rfl (fun hc => ?_) (fun hc => ?_) | refine w_neqN rfl rfl (fun hc => ?_) (fun hc => ?_) | refine w_lss rfl rfl (fun hc => ?_) (fun hc => ?_) | refine w_leq rfl rfl (fun hc => ?_) (fun hc => ?_) | refine w_gtr rfl rfl (fun hc => ?_) (fun hc => ?_) | refine w_geq rfl rfl (fun hc => ?_) (fun hc => ?_) | refine w_eql rfl rfl (fun hc => ?_) (fun hc => ?_) | refine w_neq rfl rfl (fun hc => ?_) (fun hc => ?_) | refine w_addN rfl rfl (by omega) ?_ | refine w_opk rfl rfl ?_ | refine w_cond_t rfl ?_ | refine w_cond_f rfl ?_ | refine w_skip ?_ | refine w_exit rfl ?_ | refine w_ret ?_ | refine w_rt rfl ?_)
    refine w_bslice [] rfl (by rfl) rfl rfl (by simp) fun e0 h1 he0 hf1 => ?_
    have he0n : ∀ j ∈ slIds e0, h0.n ≤ j := fun j hj => by
      rcases hf1.2 j hj with e | e
      · cases e
      · exact e
    repeat' (first | refine w_seq ?_ | refine w_reg ?_ | refine w_end (by simp only [outsV, nth, setV, List.take_succ_cons, List.take_zero, List.length_cons, List.length_nil, Nat.zero_add, Nat.reduceAdd] <;> rfl) ?_ | refine w_off rfl ?_ | refine w_rf rfl (by assumption) (by rfl) (by rfl) (by rfl) ?_ | refine w_rfg rfl rfl (by assumption) (by rfl) (by rfl) (by rfl) (by rfl) ?_ | refine w_on rfl ?_ | refine w_len rfl (by assumption) ?_ | refine w_lssN rfl rfl (fun hc => ?_) (fun hc => ?_) | refine w_leqN rfl rfl (fun hc => ?_) (fun hc => ?_) | refine w_gtrN rfl rfl (fun hc => ?_) (fun hc => ?_) | refine w_geqN rfl rfl (fun hc => ?_) (fun hc => ?_) | refine w_eqlN rfl rfl (fun hc => ?_) (fun hc => ?_) | refine w_neqN rfl rfl (fun hc => ?_) (fun hc => ?_) | refine w_lss rfl rfl (fun hc => ?_) (fun hc => ?_) | refine w_leq rfl rfl (fun hc => ?_) (fun hc => ?_) | refine w_gtr rfl rfl (fun hc => ?_) (fun hc => ?_) | refine w_geq rfl rfl (fun hc => ?_) (fun hc => ?_) | refine w_eql rfl rfl (fun hc => ?_) (fun hc => ?_) | refine w_neq rfl rfl (fun hc => ?_) (fun hc => ?_) | refine w_addN rfl rfl (by omega) ?_ | refine w_opk rfl rfl ?_ | refine w_cond_t rfl ?_ | refine w_cond_f rfl ?_ | refine w_skip ?_ | refine w_exit rfl ?_ | refine w_ret ?_ | refine w_rt rfl ?_)
    refine w_app rfl rfl he0 (hv.ext0 hf1.ext0) (by simpa using hl) fun w h2 hw hf2 => ?_
    rw [List.nil_append] at hw
    repeat' (first | refine w_seq ?_ | refine w_reg ?_ | refine w_end (by simp only [outsV, nth, setV, List.take_succ_cons, List.take_zero, List.length_cons, List.length_nil, Nat.zero_add, Nat.reduceAdd] <;> rfl) ?_ | refine w_off rfl ?_ | refine w_rf rfl (by assumption) (by rfl) (by rfl) (by rfl) ?_ | refine w_rfg rfl rfl (by assumption) (by rfl) (by rfl) (by rfl) (by rfl) ?_ | refine w_on rfl ?_ | refine w_len rfl (by assumption) ?_ | refine w_lssN rfl rfl (fun hc => ?_) (fun hc => ?_) | refine w_leqN rfl rfl (fun hc => ?_) (fun hc => ?_) | refine w_gtrN rfl rfl (fun hc => ?_) (fun hc => ?_) | refine w_geqN rfl rfl (fun hc => ?_) (fun hc => ?_) | refine w_eqlN rfl rfl (fun hc => ?_) (fun hc => ?_) | refine w_neqN rfl rfl (fun hc => ?_) (fun hc => ?_) | refine w_lss rfl rfl (fun hc => ?_) (fun hc => ?_) | refine w_leq rfl rfl (fun hc => ?_) (fun hc => ?_) | refine w_gtr rfl rfl (fun hc => ?_) (fun hc => ?_) | refine w_geq rfl rfl (fun hc => ?_) (fun hc => ?_) | refine w_eql rfl rfl (fun hc => ?_) (fun hc => ?_) | refine w_neq rfl rfl (fun hc => ?_) (fun hc => ?_) | refine w_addN rfl rfl (by omega) ?_ | refine w_opk rfl rfl ?_ | refine w_cond_t rfl ?_ | refine w_cond_f rfl ?_ | refine w_skip ?_ | refine w_exit rfl ?_ | refine w_ret ?_ | refine w_rt rfl ?_)
    refine ⟨hw, hf1.ext0.step hf2.1 fun j hj => .inr (he0n j hj), fun j hj => ?_⟩
    rcases hf2.2 j hj with e | e
    · exact he0n j e
    · have := hf1.1.1; omega


theorem rs_ext {S : List Nat} {h h' : Heap} {esz : Nat} {v : V} {l : List (List V)} (hE : ExtX S h h') (hr : RS h esz v l) (hs : ∀ j ∈ slIds v, j ∉ S) : RS h' esz v l :=
  hr.ext hE fun id off len ver e f hv => hs id (by rw [hv]; simp [slIds])

/-- Frames whose slices lie not in some objects. -/
def FrameN (S : List Nat) (h : Heap) (x : List V) (f : FrT) : Prop := ∃ v s, x = [.int .i64 f.fn, .int .i64 f.at_, v, s] ∧ RS h 4 v f.vars ∧ RS h 4 s f.stack ∧ (ValsC f.vars ∧ ValsC f.stack) ∧ (∀ j ∈ slIds v, j ∉ S) ∧ ∀ j ∈ slIds s, j ∉ S
theorem FrameN.ext {S : List Nat} {h h' : Heap} {x : List V} {f : FrT} (hE : ExtX S h h') (k : FrameN S h x f) : FrameN S h' x f := by
  obtain ⟨v, s, e, r1, r2, r3, n1, n2⟩ := k
  exact ⟨v, s, e, rs_ext hE r1 n1, rs_ext hE r2 n2, r3, n1, n2⟩
def FramesN (S : List Nat) (h : Heap) (lf : List (List V)) (F : List FrT) : Prop := lf.length = F.length ∧ F.length ≤ 2097152 ∧ ∀ (i : Nat) (x : List V) (f : FrT), lf[i]? = some x → F[i]? = some f → FrameN S h x f
theorem FramesN.ext {S : List Nat} {h h' : Heap} {x : List (List V)} {f : List FrT} (hE : ExtX S h h') (k : FramesN S h x f) : FramesN S h' x f :=
  ⟨k.1, k.2.1, fun i a b h1 h2 => (k.2.2 i a b h1 h2).ext hE⟩
theorem FramesN.ext0 {S : List Nat} {h h' : Heap} {x : List (List V)} {f : List FrT} (hE : Ext h h') (k : FramesN S h x f) : FramesN S h' x f :=
  k.ext (hE.mono (by simp))
theorem FramesN.r {S : List Nat} {h : Heap} {x : List (List V)} {f : List FrT} (k : FramesN S h x f) : FramesR h x f :=
  ⟨k.1, k.2.1, fun i a b h1 h2 => by
    obtain ⟨v, s, e, r1, r2, r3, n1, n2⟩ := k.2.2 i a b h1 h2
    exact ⟨v, s, e, r1, r2, r3⟩⟩
theorem FramesN.of {S : List Nat} {h : Heap} {x : List (List V)} {f : List FrT} (k : FramesR h x f) (hS : ∀ j ∈ S, h.n ≤ j) : FramesN S h x f :=
  ⟨k.1, k.2.1, fun i a b h1 h2 => by
    obtain ⟨v, s, e, r1, r2, r3⟩ := k.2.2 i a b h1 h2
    exact ⟨v, s, e, r1, r2, r3, fun j hj hm => by have := r1.lt j hj; have := hS j hm; omega, fun j hj hm => by have := r2.lt j hj; have := hS j hm; omega⟩⟩
theorem FramesN.set {S : List Nat} {h : Heap} {l : List (List V)} {F : List FrT} {c : List V} {i : Nat} {f : FrT} (k : FramesN S h l F) (hf : F[i]? = some f) (hc : FrameN S h c f) : FramesN S h (l.set i c) F := by
  refine ⟨by simpa using k.1, k.2.1, fun j a b h1 h2 => ?_⟩
  by_cases e : i = j
  · subst e
    have hi : i < l.length := by have := k.1; have := (List.getElem?_eq_some_iff.1 hf).1; omega
    rw [List.getElem?_set_self hi] at h1
    simp only [Option.some.injEq] at h1
    subst h1
    rw [hf] at h2
    simp only [Option.some.injEq] at h2
    subst h2
    exact hc
  · rw [List.getElem?_set_ne e] at h1
    exact k.2.2 j a b h1 h2

/-- Frames by value lie in no object. -/
theorem FramesN.flat {S : List Nat} {h : Heap} {x : List (List V)} {f : List FrT} (k : ∀ H, FramesR H x f) : FramesN S h x f :=
  ⟨(k h).1, (k h).2.1, fun i a b h1 h2 => by
    obtain ⟨v, s, e, r1, r2, r3⟩ := (k h).2.2 i a b h1 h2
    obtain ⟨v', s', e', u1, u2, _⟩ := (k Heap.empty).2.2 i a b h1 h2
    rw [e] at e'
    simp only [List.cons.injEq, and_true, true_and] at e'
    obtain ⟨rfl, rfl⟩ := e'
    exact ⟨v, s, e, r1, r2, r3, fun j hj _ => absurd (u1.lt j hj) (Nat.not_lt_zero _), fun j hj _ => absurd (u2.lt j hj) (Nat.not_lt_zero _)⟩⟩

/-- A turn that lies not in some objects. -/
def TurnN (S : List Nat) (h : Heap) (c : List V) (T : TurnT) : Prop := ∃ vf ve vs lf, c = [vf, ve, .int .i64 T.self, .int .i64 T.next, .int .i64 T.used, .int .u8 T.over, .int .i64 T.trap, .int .i64 T.role, vs] ∧
  RS h 4 vf lf ∧ FramesN S h lf T.frames ∧ RS h 4 ve T.effs ∧ T.effs.length ≤ 2097152 ∧ (∀ e ∈ T.effs, EffC e) ∧ RS h 4 vs T.state ∧ ValsC T.state ∧ (∀ j ∈ slIds vf, j ∉ S) ∧ (∀ j ∈ slIds ve, j ∉ S) ∧ ∀ j ∈ slIds vs, j ∉ S
theorem TurnN.r {S : List Nat} {h : Heap} {c : List V} {T : TurnT} (k : TurnN S h c T) : TurnR h c T := by
  obtain ⟨vf, ve, vs, lf, e, r1, r2, r3, r4, r5, r6, r7, _⟩ := k
  exact ⟨vf, ve, vs, lf, e, r1, r2.r, r3, r4, r5, r6, r7⟩
theorem TurnN.ext {S : List Nat} {h h' : Heap} {c : List V} {T : TurnT} (hE : ExtX S h h') (k : TurnN S h c T) : TurnN S h' c T := by
  obtain ⟨vf, ve, vs, lf, e, r1, r2, r3, r4, r5, r6, r7, n1, n2, n3⟩ := k
  exact ⟨vf, ve, vs, lf, e, rs_ext hE r1 n1, r2.ext hE, rs_ext hE r3 n2, r4, r5, rs_ext hE r6 n3, r7, n1, n2, n3⟩

/-- A turn by value. -/
def TurnV (c : List V) (T : TurnT) : Prop := ∃ vf ve vs lf, c = [vf, ve, .int .i64 T.self, .int .i64 T.next, .int .i64 T.used, .int .u8 T.over, .int .i64 T.trap, .int .i64 T.role, vs] ∧
  (∀ h, RS h 4 vf lf) ∧ (∀ h, FramesR h lf T.frames) ∧ (∀ h, RS h 4 ve T.effs) ∧ T.effs.length ≤ 2097152 ∧ (∀ e ∈ T.effs, EffC e) ∧ (∀ h, RS h 4 vs T.state) ∧ ValsC T.state
theorem TurnV.r {c : List V} {T : TurnT} (k : TurnV c T) (h : Heap) : TurnR h c T := by
  obtain ⟨vf, ve, vs, lf, e, r1, r2, r3, r4, r5, r6, r7⟩ := k
  exact ⟨vf, ve, vs, lf, e, r1 h, r2 h, r3 h, r4, r5, r6 h, r7⟩

structure OffCopied (O : CallF) : Prop where
  c1 : ∀ a h, O 48 a h = none
  c2 : ∀ a h, O 86 a h = none
  c3 : ∀ a h, O 87 a h = none
  cp : ∀ a h, O 54 a h = none

theorem copied_ok (hO : OffCopied O) {h0 : Heap} {c : List V} {T : TurnT} (S : List Nat) (hSn : ∀ j ∈ S, j < h0.n) (ht : TurnV c T) : WPc tab.get O 54 [.agg c] h0 (fun v h' => (∃ c', v = .agg c' ∧ TurnN S h' c' T) ∧ Ext h0 h') := by
  refine w_fn' (hO.cp _ _) rfl rfl (by simp only [c54, initV, nth] <;> rfl) ?_
  have hs := (ht.r h0).shape
  refine w_seq (w_reg (w_box rfl hs.1 hs.2 fun iA h1 hA hiA hE1 => ?_))
  refine w_alloc fun iR h2 hR hiR hE2 => ?_
  have E2 := hE1.trans hE2
  have hAl := hA.1
  replace hA := hA.ext0 hE2
  have hRl := hR.1
  obtain ⟨vf, ve, vs, lf, rfl, rfA, sfA, reA, be, se, rsA, bs⟩ := ht
  have rf := rfA h0
  have sf := sfA h0
  have re := reA h0
  have rs := rsA h0
  have hAR : iA ≠ iR := by omega
  repeat' (first | refine w_seq ?_ | refine w_reg ?_ | refine w_end (by simp only [outsV, nth, setV, List.take_succ_cons, List.take_zero, List.length_cons, List.length_nil, Nat.zero_add, Nat.reduceAdd] <;> rfl) ?_ | refine w_off rfl ?_ | refine w_rf rfl (by assumption) (by rfl) (by rfl) (by rfl) ?_ | refine w_rfg rfl rfl (by assumption) (by rfl) (by rfl) (by rfl) (by rfl) ?_ | refine w_on rfl ?_ | refine w_len rfl (by assumption) ?_ | refine w_lssN rfl rfl (fun hc => ?_) (fun hc => ?_) | refine w_leqN rfl rfl (fun hc => ?_) (fun hc => ?_) | refine w_gtrN rfl rfl (fun hc => ?_) (fun hc => ?_) | refine w_geqN rfl rfl (fun hc => ?_) (fun hc => ?_) | refine w_eqlN rfl rfl (fun hc => ?_) (fun hc => ?_) | refine w_neqN rfl rfl (fun hc => ?_) (fun hc => ?_) | refine w_lss rfl rfl (fun hc => ?_) (fun hc => ?_) | refine w_leq rfl rfl (fun hc => ?_) (fun hc => ?_) | refine w_gtr rfl rfl (fun hc => ?_) (fun hc => ?_) | refine w_geq rfl rfl (fun hc => ?_) (fun hc => ?_) | refine w_eql rfl rfl (fun hc => ?_) (fun hc => ?_) | refine w_neq rfl rfl (fun hc => ?_) (fun hc => ?_) | refine w_addN rfl rfl (by omega) ?_ | refine w_opk rfl rfl ?_ | refine w_cond_t rfl ?_ | refine w_cond_f rfl ?_ | refine w_skip ?_ | refine w_exit rfl ?_ | refine w_ret ?_ | refine w_rt rfl ?_)
  refine w_call rfl ((cloneVal_ok hO.c1 (rs.ext0 E2) (by have := bs.1; omega)).mono fun ws h3 ⟨hws, hE3, nws⟩ => ?_)
  replace hA := hA.ext0 hE3
  replace hR := hR.ext0 hE3
  replace E2 := E2.trans hE3
  replace hA : Own h3 iA [vf, ve, .int .i64 T.self, .int .i64 T.next, .int .i64 T.used, .int .u8 T.over, .int .i64 T.trap, .int .i64 T.role, vs] := hA
  refine w_chk1 rfl rfl ((hA.at (hi := 9) rfl).fadr (d := 0) (by simp)) (V.beq_refl _) ?_
  refine w_chk1 rfl rfl ((hA.at (hi := 9) rfl).fadr (d := 1) (by simp)) (V.beq_refl _) ?_
  repeat' (first | refine w_seq ?_ | refine w_reg ?_ | refine w_end (by simp only [outsV, nth, setV, List.take_succ_cons, List.take_zero, List.length_cons, List.length_nil, Nat.zero_add, Nat.reduceAdd] <;> rfl) ?_ | refine w_off rfl ?_ | refine w_rf rfl (by assumption) (by rfl) (by rfl) (by rfl) ?_ | refine w_rfg rfl rfl (by assumption) (by rfl) (by rfl) (by rfl) (by rfl) ?_ | refine w_on rfl ?_ | refine w_len rfl (by assumption) ?_ | refine w_lssN rfl rfl (fun hc => ?_) (fun hc => ?_) | refine w_leqN rfl rfl (fun hc => ?_) (fun hc => ?_) | refine w_gtrN rfl rfl (fun hc => ?_) (fun hc => ?_) | refine w_geqN rfl rfl (fun hc => ?_) (fun hc => ?_) | refine w_eqlN rfl rfl (fun hc => ?_) (fun hc => ?_) | refine w_neqN rfl rfl (fun hc => ?_) (fun hc => ?_) | refine w_lss rfl rfl (fun hc => ?_) (fun hc => ?_) | refine w_leq rfl rfl (fun hc => ?_) (fun hc => ?_) | refine w_gtr rfl rfl (fun hc => ?_) (fun hc => ?_) | refine w_geq rfl rfl (fun hc => ?_) (fun hc => ?_) | refine w_eql rfl rfl (fun hc => ?_) (fun hc => ?_) | refine w_neq rfl rfl (fun hc => ?_) (fun hc => ?_) | refine w_addN rfl rfl (by omega) ?_ | refine w_opk rfl rfl ?_ | refine w_cond_t rfl ?_ | refine w_cond_f rfl ?_ | refine w_skip ?_ | refine w_exit rfl ?_ | refine w_ret ?_ | refine w_rt rfl ?_)
  refine w_call rfl ((cloneEff_ok hO.c2 (re.ext0 E2) (by omega)).mono fun we h4 ⟨hwe, hE4, nwe⟩ => ?_)
  replace hA := hA.ext0 hE4
  replace hR := hR.ext0 hE4
  replace hws := hws.ext0 hE4
  replace E2 := E2.trans hE4
  refine w_chk1 rfl rfl ((hA.at (hi := 9) rfl).fadr (d := 0) (by simp)) (V.beq_refl _) ?_
  repeat' (first | refine w_seq ?_ | refine w_reg ?_ | refine w_end (by simp only [outsV, nth, setV, List.take_succ_cons, List.take_zero, List.length_cons, List.length_nil, Nat.zero_add, Nat.reduceAdd] <;> rfl) ?_ | refine w_off rfl ?_ | refine w_rf rfl (by assumption) (by rfl) (by rfl) (by rfl) ?_ | refine w_rfg rfl rfl (by assumption) (by rfl) (by rfl) (by rfl) (by rfl) ?_ | refine w_on rfl ?_ | refine w_len rfl (by assumption) ?_ | refine w_lssN rfl rfl (fun hc => ?_) (fun hc => ?_) | refine w_leqN rfl rfl (fun hc => ?_) (fun hc => ?_) | refine w_gtrN rfl rfl (fun hc => ?_) (fun hc => ?_) | refine w_geqN rfl rfl (fun hc => ?_) (fun hc => ?_) | refine w_eqlN rfl rfl (fun hc => ?_) (fun hc => ?_) | refine w_neqN rfl rfl (fun hc => ?_) (fun hc => ?_) | refine w_lss rfl rfl (fun hc => ?_) (fun hc => ?_) | refine w_leq rfl rfl (fun hc => ?_) (fun hc => ?_) | refine w_gtr rfl rfl (fun hc => ?_) (fun hc => ?_) | refine w_geq rfl rfl (fun hc => ?_) (fun hc => ?_) | refine w_eql rfl rfl (fun hc => ?_) (fun hc => ?_) | refine w_neq rfl rfl (fun hc => ?_) (fun hc => ?_) | refine w_addN rfl rfl (by omega) ?_ | refine w_opk rfl rfl ?_ | refine w_cond_t rfl ?_ | refine w_cond_f rfl ?_ | refine w_skip ?_ | refine w_exit rfl ?_ | refine w_ret ?_ | refine w_rt rfl ?_)
  have ef := sf.1
  have bf := sf.2.1
  refine w_call rfl ((cloneFrame_ok hO.c3 (rf.ext0 E2) (by omega)).mono fun wf h5 ⟨hwf, hE5, nwf⟩ => ?_)
  have lws := hws.rs.lt
  have lwe := hwe.rs.lt
  have n34 := hE3.1
  have n45 := hE4.1
  have n56 := hE5.1
  have n02 := hE1.1
  have n12 := hE2.1
  replace hA := hA.ext0 hE5
  replace hR := hR.ext0 hE5
  replace hws := hws.ext0 hE5
  replace hwe := hwe.ext0 hE5
  replace E2 := E2.trans hE5
  have o1 := hws.rs.one
  have o2 := hwe.rs.one
  have o3 := hwf.rs.one
  have sf5 := sf.ext E2
  refine w_store rfl rfl hA (by rw [V.cells1 o1]; rfl) (by rw [V.cells1 o1]; simp only [allOne, o1]) (by decide) (by simp) fun h6 hA6 hE6 hn6 => ?_
  repeat' (first | refine w_seq ?_ | refine w_reg ?_ | refine w_end (by simp only [outsV, nth, setV, List.take_succ_cons, List.take_zero, List.length_cons, List.length_nil, Nat.zero_add, Nat.reduceAdd] <;> rfl) ?_ | refine w_off rfl ?_ | refine w_rf rfl (by assumption) (by rfl) (by rfl) (by rfl) ?_ | refine w_rfg rfl rfl (by assumption) (by rfl) (by rfl) (by rfl) (by rfl) ?_ | refine w_on rfl ?_ | refine w_len rfl (by assumption) ?_ | refine w_lssN rfl rfl (fun hc => ?_) (fun hc => ?_) | refine w_leqN rfl rfl (fun hc => ?_) (fun hc => ?_) | refine w_gtrN rfl rfl (fun hc => ?_) (fun hc => ?_) | refine w_geqN rfl rfl (fun hc => ?_) (fun hc => ?_) | refine w_eqlN rfl rfl (fun hc => ?_) (fun hc => ?_) | refine w_neqN rfl rfl (fun hc => ?_) (fun hc => ?_) | refine w_lss rfl rfl (fun hc => ?_) (fun hc => ?_) | refine w_leq rfl rfl (fun hc => ?_) (fun hc => ?_) | refine w_gtr rfl rfl (fun hc => ?_) (fun hc => ?_) | refine w_geq rfl rfl (fun hc => ?_) (fun hc => ?_) | refine w_eql rfl rfl (fun hc => ?_) (fun hc => ?_) | refine w_neq rfl rfl (fun hc => ?_) (fun hc => ?_) | refine w_addN rfl rfl (by omega) ?_ | refine w_opk rfl rfl ?_ | refine w_cond_t rfl ?_ | refine w_cond_f rfl ?_ | refine w_skip ?_ | refine w_exit rfl ?_ | refine w_ret ?_ | refine w_rt rfl ?_)
  rw [V.cells1 o1] at hA6
  refine w_store rfl rfl hA6 (by rw [V.cells1 o2]; rfl) (by rw [V.cells1 o2]; simp only [allOne, o2]) (by decide) (by simp [splice, over]) fun h7 hA7 hE7 hn7 => ?_
  repeat' (first | refine w_seq ?_ | refine w_reg ?_ | refine w_end (by simp only [outsV, nth, setV, List.take_succ_cons, List.take_zero, List.length_cons, List.length_nil, Nat.zero_add, Nat.reduceAdd] <;> rfl) ?_ | refine w_off rfl ?_ | refine w_rf rfl (by assumption) (by rfl) (by rfl) (by rfl) ?_ | refine w_rfg rfl rfl (by assumption) (by rfl) (by rfl) (by rfl) (by rfl) ?_ | refine w_on rfl ?_ | refine w_len rfl (by assumption) ?_ | refine w_lssN rfl rfl (fun hc => ?_) (fun hc => ?_) | refine w_leqN rfl rfl (fun hc => ?_) (fun hc => ?_) | refine w_gtrN rfl rfl (fun hc => ?_) (fun hc => ?_) | refine w_geqN rfl rfl (fun hc => ?_) (fun hc => ?_) | refine w_eqlN rfl rfl (fun hc => ?_) (fun hc => ?_) | refine w_neqN rfl rfl (fun hc => ?_) (fun hc => ?_) | refine w_lss rfl rfl (fun hc => ?_) (fun hc => ?_) | refine w_leq rfl rfl (fun hc => ?_) (fun hc => ?_) | refine w_gtr rfl rfl (fun hc => ?_) (fun hc => ?_) | refine w_geq rfl rfl (fun hc => ?_) (fun hc => ?_) | refine w_eql rfl rfl (fun hc => ?_) (fun hc => ?_) | refine w_neq rfl rfl (fun hc => ?_) (fun hc => ?_) | refine w_addN rfl rfl (by omega) ?_ | refine w_opk rfl rfl ?_ | refine w_cond_t rfl ?_ | refine w_cond_f rfl ?_ | refine w_skip ?_ | refine w_exit rfl ?_ | refine w_ret ?_ | refine w_rt rfl ?_)
  rw [V.cells1 o2] at hA7
  refine w_store rfl rfl hA7 (by rw [V.cells1 o3]; rfl) (by rw [V.cells1 o3]; simp only [allOne, o3]) (by decide) (by simp [splice, over]) fun h8 hA8 hE8 hn8 => ?_
  rw [V.cells1 o3] at hA8
  replace hA8 : Own h8 iA [wf, we, .int .i64 T.self, .int .i64 T.next, .int .i64 T.used, .int .u8 T.over, .int .i64 T.trap, .int .i64 T.role, ws] := hA8
  have hE58 := (hE6.trans hE7).trans hE8
  replace hR := hR.ext hE58 (by simp; omega)
  replace hwf := hwf.ext hE58 (fun j hj => by have := nwf j hj; simp; omega)
  replace hws := hws.ext hE58 (fun j hj => by have := nws j hj; simp; omega)
  replace hwe := hwe.ext hE58 (fun j hj => by have := nwe j hj; simp; omega)
  have E8 : Ext h0 h8 := E2.step hE58 fun j hj => by simp at hj; exact .inr (by omega)
  have sf8 := sf.ext E8
  have n58 := hE58.1
  have lwf := hwf.rs.lt
  have hF0 : FramesN (S ++ iR :: slIds wf) h8 lf T.frames := FramesN.flat sfA
  clear sfA rfA reA rsA hA hA6 hA7 hE6 hE7 hE8 hE58 sf5 sf8 hE1 hE2 hE3 hE4 hE5 rf re rs
  have hAk : Own h8 iA [wf, we, .int .i64 T.self, .int .i64 T.next, .int .i64 T.used, .int .u8 T.over, .int .i64 T.trap, .int .i64 T.role, ws] := hA8
  have rwf := hwf.rs
  repeat' (first | refine w_seq ?_ | refine w_reg ?_ | refine w_end (by simp only [outsV, nth, setV, List.take_succ_cons, List.take_zero, List.length_cons, List.length_nil, Nat.zero_add, Nat.reduceAdd] <;> rfl) ?_ | refine w_off rfl ?_ | refine w_rf rfl (by assumption) (by rfl) (by rfl) (by rfl) ?_ | refine w_rfg rfl rfl (by assumption) (by rfl) (by rfl) (by rfl) (by rfl) ?_ | refine w_on rfl ?_ | refine w_len rfl (by assumption) ?_ | refine w_lssN rfl rfl (fun hc => ?_) (fun hc => ?_) | refine w_leqN rfl rfl (fun hc => ?_) (fun hc => ?_) | refine w_gtrN rfl rfl (fun hc => ?_) (fun hc => ?_) | refine w_geqN rfl rfl (fun hc => ?_) (fun hc => ?_) | refine w_eqlN rfl rfl (fun hc => ?_) (fun hc => ?_) | refine w_neqN rfl rfl (fun hc => ?_) (fun hc => ?_) | refine w_lss rfl rfl (fun hc => ?_) (fun hc => ?_) | refine w_leq rfl rfl (fun hc => ?_) (fun hc => ?_) | refine w_gtr rfl rfl (fun hc => ?_) (fun hc => ?_) | refine w_geq rfl rfl (fun hc => ?_) (fun hc => ?_) | refine w_eql rfl rfl (fun hc => ?_) (fun hc => ?_) | refine w_neq rfl rfl (fun hc => ?_) (fun hc => ?_) | refine w_addN rfl rfl (by omega) ?_ | refine w_opk rfl rfl ?_ | refine w_cond_t rfl ?_ | refine w_cond_f rfl ?_ | refine w_skip ?_ | refine w_exit rfl ?_ | refine w_ret ?_ | refine w_rt rfl ?_)
  refine w_count (fun j vs' h => ∃ l, (Ow h 4 wf l ∧ FramesN (S ++ iR :: slIds wf) h l T.frames ∧ Ext h0 h ∧ ExtX (slIds wf) h8 h) ∧ ∃ b5 b6 b7, vs' = [.agg [vf, ve, .int .i64 T.self, .int .i64 T.next, .int .i64 T.used, .int .u8 T.over, .int .i64 T.trap, .int .i64 T.role, vs], .ptr iR 0 0 9, .ptr iA 0 0 9, .int .i64 (.ofNat j), .int .i64 (.ofNat lf.length), b5, b6, b7]) lf.length ⟨lf, ⟨hwf, hF0, E8, ExtX.refl _ _⟩, _, _, _, rfl⟩ ?_
  clear hwf hAk rwf
  rintro j vs' h hj ⟨l, ⟨hw, hF, hE0, hE⟩, b5, b6, b7, rfl⟩
  have niA : iA ∉ slIds wf := fun e => by have := nwf iA e; omega
  have hA := hA8.ext hE niA
  have rw1 := hw.rs
  have el := hF.1
  repeat' (first | refine w_seq ?_ | refine w_reg ?_ | refine w_end (by simp only [outsV, nth, setV, List.take_succ_cons, List.take_zero, List.length_cons, List.length_nil, Nat.zero_add, Nat.reduceAdd] <;> rfl) ?_ | refine w_off rfl ?_ | refine w_rf rfl (by assumption) (by rfl) (by rfl) (by rfl) ?_ | refine w_rfg rfl rfl (by assumption) (by rfl) (by rfl) (by rfl) (by rfl) ?_ | refine w_on rfl ?_ | refine w_len rfl (by assumption) ?_ | refine w_lssN rfl rfl (fun hc => ?_) (fun hc => ?_) | refine w_leqN rfl rfl (fun hc => ?_) (fun hc => ?_) | refine w_gtrN rfl rfl (fun hc => ?_) (fun hc => ?_) | refine w_geqN rfl rfl (fun hc => ?_) (fun hc => ?_) | refine w_eqlN rfl rfl (fun hc => ?_) (fun hc => ?_) | refine w_neqN rfl rfl (fun hc => ?_) (fun hc => ?_) | refine w_lss rfl rfl (fun hc => ?_) (fun hc => ?_) | refine w_leq rfl rfl (fun hc => ?_) (fun hc => ?_) | refine w_gtr rfl rfl (fun hc => ?_) (fun hc => ?_) | refine w_geq rfl rfl (fun hc => ?_) (fun hc => ?_) | refine w_eql rfl rfl (fun hc => ?_) (fun hc => ?_) | refine w_neq rfl rfl (fun hc => ?_) (fun hc => ?_) | refine w_addN rfl rfl (by omega) ?_ | refine w_opk rfl rfl ?_ | refine w_cond_t rfl ?_ | refine w_cond_f rfl ?_ | refine w_skip ?_ | refine w_exit rfl ?_ | refine w_ret ?_ | refine w_rt rfl ?_)
  · have hjl : j < lf.length := by assumption
    have hjw : j < l.length := by omega
    have hjF : j < T.frames.length := by omega
    have hg : T.frames[j]? = some T.frames[j] := List.getElem?_eq_getElem hjF
    obtain ⟨v, s, e, r1, r2, ⟨v1, v2⟩, m1, m2⟩ := hF.2.2 j l[j] T.frames[j] (List.getElem?_eq_getElem hjw) hg
    generalize T.frames[j] = F at *
    refine w_block ?_
    repeat' (first | refine w_seq ?_ | refine w_reg ?_ | refine w_end (by simp only [outsV, nth, setV, List.take_succ_cons, List.take_zero, List.length_cons, List.length_nil, Nat.zero_add, Nat.reduceAdd] <;> rfl) ?_ | refine w_off rfl ?_ | refine w_rf rfl (by assumption) (by rfl) (by rfl) (by rfl) ?_ | refine w_rfg rfl rfl (by assumption) (by rfl) (by rfl) (by rfl) (by rfl) ?_ | refine w_on rfl ?_ | refine w_len rfl (by assumption) ?_ | refine w_lssN rfl rfl (fun hc => ?_) (fun hc => ?_) | refine w_leqN rfl rfl (fun hc => ?_) (fun hc => ?_) | refine w_gtrN rfl rfl (fun hc => ?_) (fun hc => ?_) | refine w_geqN rfl rfl (fun hc => ?_) (fun hc => ?_) | refine w_eqlN rfl rfl (fun hc => ?_) (fun hc => ?_) | refine w_neqN rfl rfl (fun hc => ?_) (fun hc => ?_) | refine w_lss rfl rfl (fun hc => ?_) (fun hc => ?_) | refine w_leq rfl rfl (fun hc => ?_) (fun hc => ?_) | refine w_gtr rfl rfl (fun hc => ?_) (fun hc => ?_) | refine w_geq rfl rfl (fun hc => ?_) (fun hc => ?_) | refine w_eql rfl rfl (fun hc => ?_) (fun hc => ?_) | refine w_neq rfl rfl (fun hc => ?_) (fun hc => ?_) | refine w_addN rfl rfl (by omega) ?_ | refine w_opk rfl rfl ?_ | refine w_cond_t rfl ?_ | refine w_cond_f rfl ?_ | refine w_skip ?_ | refine w_exit rfl ?_ | refine w_ret ?_ | refine w_rt rfl ?_)
    refine w_iadrS rfl rfl rw1 hjw ?_
    have hS := slot_at rw1 hjw
    rw [e] at hS
    repeat' (first | refine w_seq ?_ | refine w_reg ?_ | refine w_end (by simp only [outsV, nth, setV, List.take_succ_cons, List.take_zero, List.length_cons, List.length_nil, Nat.zero_add, Nat.reduceAdd] <;> rfl) ?_ | refine w_off rfl ?_ | refine w_rf rfl (by assumption) (by rfl) (by rfl) (by rfl) ?_ | refine w_rfg rfl rfl (by assumption) (by rfl) (by rfl) (by rfl) (by rfl) ?_ | refine w_on rfl ?_ | refine w_len rfl (by assumption) ?_ | refine w_lssN rfl rfl (fun hc => ?_) (fun hc => ?_) | refine w_leqN rfl rfl (fun hc => ?_) (fun hc => ?_) | refine w_gtrN rfl rfl (fun hc => ?_) (fun hc => ?_) | refine w_geqN rfl rfl (fun hc => ?_) (fun hc => ?_) | refine w_eqlN rfl rfl (fun hc => ?_) (fun hc => ?_) | refine w_neqN rfl rfl (fun hc => ?_) (fun hc => ?_) | refine w_lss rfl rfl (fun hc => ?_) (fun hc => ?_) | refine w_leq rfl rfl (fun hc => ?_) (fun hc => ?_) | refine w_gtr rfl rfl (fun hc => ?_) (fun hc => ?_) | refine w_geq rfl rfl (fun hc => ?_) (fun hc => ?_) | refine w_eql rfl rfl (fun hc => ?_) (fun hc => ?_) | refine w_neq rfl rfl (fun hc => ?_) (fun hc => ?_) | refine w_addN rfl rfl (by omega) ?_ | refine w_opk rfl rfl ?_ | refine w_cond_t rfl ?_ | refine w_cond_f rfl ?_ | refine w_skip ?_ | refine w_exit rfl ?_ | refine w_ret ?_ | refine w_rt rfl ?_)
    refine w_nilck rfl hS ?_
    refine w_fadr rfl hS rfl fun hS1 => ?_
    refine w_load1 rfl hS1 rfl ?_
    repeat' (first | refine w_seq ?_ | refine w_reg ?_ | refine w_end (by simp only [outsV, nth, setV, List.take_succ_cons, List.take_zero, List.length_cons, List.length_nil, Nat.zero_add, Nat.reduceAdd] <;> rfl) ?_ | refine w_off rfl ?_ | refine w_rf rfl (by assumption) (by rfl) (by rfl) (by rfl) ?_ | refine w_rfg rfl rfl (by assumption) (by rfl) (by rfl) (by rfl) (by rfl) ?_ | refine w_on rfl ?_ | refine w_len rfl (by assumption) ?_ | refine w_lssN rfl rfl (fun hc => ?_) (fun hc => ?_) | refine w_leqN rfl rfl (fun hc => ?_) (fun hc => ?_) | refine w_gtrN rfl rfl (fun hc => ?_) (fun hc => ?_) | refine w_geqN rfl rfl (fun hc => ?_) (fun hc => ?_) | refine w_eqlN rfl rfl (fun hc => ?_) (fun hc => ?_) | refine w_neqN rfl rfl (fun hc => ?_) (fun hc => ?_) | refine w_lss rfl rfl (fun hc => ?_) (fun hc => ?_) | refine w_leq rfl rfl (fun hc => ?_) (fun hc => ?_) | refine w_gtr rfl rfl (fun hc => ?_) (fun hc => ?_) | refine w_geq rfl rfl (fun hc => ?_) (fun hc => ?_) | refine w_eql rfl rfl (fun hc => ?_) (fun hc => ?_) | refine w_neq rfl rfl (fun hc => ?_) (fun hc => ?_) | refine w_addN rfl rfl (by omega) ?_ | refine w_opk rfl rfl ?_ | refine w_cond_t rfl ?_ | refine w_cond_f rfl ?_ | refine w_skip ?_ | refine w_exit rfl ?_ | refine w_ret ?_ | refine w_rt rfl ?_)
    refine w_nilck rfl hS ?_
    refine w_fadr rfl hS rfl fun hS2 => ?_
    refine w_load1 (c := []) rfl hS2 rfl ?_
    refine w_call rfl ((cloneVal_ok hO.c1 r1 (by have := v1.1; omega)).mono fun cv h9 ⟨hcv, hE9, ncv⟩ => ?_)
    have n9 := hE9.1
    have lcv := hcv.rs.lt
    replace hw := hw.ext0 hE9
    have hS9 := slot_at hw.rs hjw
    rw [e] at hS9
    refine w_chk1 rfl rfl (hS9.fadr (d := 3) (by simp)) (V.beq_refl _) ?_
    refine w_call rfl ((cloneVal_ok hO.c1 (r2.ext0 hE9) (by have := v2.1; omega)).mono fun cs h10 ⟨hcs, hE10, ncs⟩ => ?_)
    have n10 := hE10.1
    have lw := rw1.lt
    replace hw := hw.ext0 hE10
    replace hcv := hcv.ext0 hE10
    have hF10 := (hF.ext0 hE9).ext0 hE10
    have hS10 := slot_at hw.rs hjw
    rw [e] at hS10
    have o4 := hcv.rs.one
    have o5 := hcs.rs.one
    refine w_nilck rfl hS10 ?_
    refine w_fadr rfl hS10 rfl fun _ => ?_
    refine w_storeS rfl rfl hw hjw (by rw [V.cells1 o4]; rfl) (by decide) (by rw [V.cells1 o4]; simp only [allOne, o4]) fun h11 hw11 hE11 hn11 => ?_
    rw [V.cells1 o4, e] at hw11
    replace hw11 : Ow h11 4 wf (l.set j [.int .i64 F.fn, .int .i64 F.at_, cv, s]) := hw11
    have hjw2 : j < (l.set j [.int .i64 F.fn, .int .i64 F.at_, cv, s]).length := by simpa using hjw
    have hS11 := slot_at hw11.rs hjw2
    rw [List.getElem_set_self] at hS11
    refine w_nilck rfl hS11 ?_
    refine w_fadr rfl hS11 rfl fun _ => ?_
    refine w_storeS rfl rfl hw11 hjw2 (by rw [V.cells1 o5]; rfl) (by decide) (by rw [V.cells1 o5]; simp only [allOne, o5]) fun h12 hw12 hE12 hn12 => ?_
    rw [V.cells1 o5, List.getElem_set_self, List.set_set] at hw12
    replace hw12 : Ow h12 4 wf (l.set j [.int .i64 F.fn, .int .i64 F.at_, cv, cs]) := hw12
    have hEE := hE11.trans hE12
    have mcv : ∀ i ∈ slIds cv, i ∉ S ++ iR :: slIds wf := fun i h1 h2 => by
      have := ncv i h1
      rcases List.mem_append.1 h2 with e | e
      · have := hSn i e; have := hE.1; omega
      rcases List.mem_cons.1 e with e | e
      · have := hE.1; omega
      · have := lw i e; omega
    have mcs : ∀ i ∈ slIds cs, i ∉ S ++ iR :: slIds wf := fun i h1 h2 => by
      have := ncs i h1
      rcases List.mem_append.1 h2 with e | e
      · have := hSn i e; have := hE.1; omega
      rcases List.mem_cons.1 e with e | e
      · have := hE.1; omega
      · have := lw i e; omega
    have hEM := hEE.mono (S' := S ++ iR :: slIds wf) (fun i hi => List.mem_append.2 (.inr (List.mem_cons_of_mem _ hi)))
    have hF12 := (hF10.ext hEM).set (c := [.int .i64 F.fn, .int .i64 F.at_, cv, cs]) hg ⟨cv, cs, rfl, rs_ext hEM hcv.rs mcv, rs_ext hEM hcs.rs mcs, ⟨v1, v2⟩, mcv, mcs⟩
    have hT := hE9.trans hE10
    have hE0' : Ext h0 h12 := (hE0.trans hT).step hEE fun i hi => by have := nwf i hi; exact .inr (by omega)
    have hE' : ExtX (slIds wf) h8 h12 := (hE.trans (hT.mono (by simp))).trans hEE
    repeat' (first | refine w_seq ?_ | refine w_reg ?_ | refine w_end (by simp only [outsV, nth, setV, List.take_succ_cons, List.take_zero, List.length_cons, List.length_nil, Nat.zero_add, Nat.reduceAdd] <;> rfl) ?_ | refine w_off rfl ?_ | refine w_rf rfl (by assumption) (by rfl) (by rfl) (by rfl) ?_ | refine w_rfg rfl rfl (by assumption) (by rfl) (by rfl) (by rfl) (by rfl) ?_ | refine w_on rfl ?_ | refine w_len rfl (by assumption) ?_ | refine w_lssN rfl rfl (fun hc => ?_) (fun hc => ?_) | refine w_leqN rfl rfl (fun hc => ?_) (fun hc => ?_) | refine w_gtrN rfl rfl (fun hc => ?_) (fun hc => ?_) | refine w_geqN rfl rfl (fun hc => ?_) (fun hc => ?_) | refine w_eqlN rfl rfl (fun hc => ?_) (fun hc => ?_) | refine w_neqN rfl rfl (fun hc => ?_) (fun hc => ?_) | refine w_lss rfl rfl (fun hc => ?_) (fun hc => ?_) | refine w_leq rfl rfl (fun hc => ?_) (fun hc => ?_) | refine w_gtr rfl rfl (fun hc => ?_) (fun hc => ?_) | refine w_geq rfl rfl (fun hc => ?_) (fun hc => ?_) | refine w_eql rfl rfl (fun hc => ?_) (fun hc => ?_) | refine w_neq rfl rfl (fun hc => ?_) (fun hc => ?_) | refine w_addN rfl rfl (by omega) ?_ | refine w_opk rfl rfl ?_ | refine w_cond_t rfl ?_ | refine w_cond_f rfl ?_ | refine w_skip ?_ | refine w_exit rfl ?_ | refine w_ret ?_ | refine w_rt rfl ?_)
    exact ⟨hjl, _, ⟨hw12, hF12, hE0', hE'⟩, _, _, _, rfl⟩
  · have hs9 : allOne [wf, we, .int .i64 T.self, .int .i64 T.next, .int .i64 T.used, .int .u8 T.over, .int .i64 T.trap, .int .i64 T.role, ws] = true := by
      simp only [allOne, o1, o2, o3]; rfl
    refine w_loadA rfl (hA.at rfl) rfl ?_
    have hR' := hR.ext hE (fun e => by have := nwf iR e; omega)
    refine w_store rfl rfl hR' rfl hs9 (by decide) (by simp) fun h9 hR9 hE9 hn9 => ?_
    replace hR9 : Own h9 iR [wf, we, .int .i64 T.self, .int .i64 T.next, .int .i64 T.used, .int .u8 T.over, .int .i64 T.trap, .int .i64 T.role, ws] := hR9
    have E9 : Ext h0 h9 := hE0.step hE9 fun i hi => by simp at hi; exact .inr (by omega)
    have hw9 := hw.ext hE9 (fun i hi => by have := nwf i hi; simp; omega)
    have hws9 := (hws.ext hE (fun i h1 h2 => by have := lws i h1; have := nwf i h2; omega)).ext hE9 (fun i hi => by have := nws i hi; simp; omega)
    have hwe9 := (hwe.ext hE (fun i h1 h2 => by have := lwe i h1; have := nwf i h2; omega)).ext hE9 (fun i hi => by have := nwe i hi; simp; omega)
    repeat' (first | refine w_seq ?_ | refine w_reg ?_ | refine w_end (by simp only [outsV, nth, setV, List.take_succ_cons, List.take_zero, List.length_cons, List.length_nil, Nat.zero_add, Nat.reduceAdd] <;> rfl) ?_ | refine w_off rfl ?_ | refine w_rf rfl (by assumption) (by rfl) (by rfl) (by rfl) ?_ | refine w_rfg rfl rfl (by assumption) (by rfl) (by rfl) (by rfl) (by rfl) ?_ | refine w_on rfl ?_ | refine w_len rfl (by assumption) ?_ | refine w_lssN rfl rfl (fun hc => ?_) (fun hc => ?_) | refine w_leqN rfl rfl (fun hc => ?_) (fun hc => ?_) | refine w_gtrN rfl rfl (fun hc => ?_) (fun hc => ?_) | refine w_geqN rfl rfl (fun hc => ?_) (fun hc => ?_) | refine w_eqlN rfl rfl (fun hc => ?_) (fun hc => ?_) | refine w_neqN rfl rfl (fun hc => ?_) (fun hc => ?_) | refine w_lss rfl rfl (fun hc => ?_) (fun hc => ?_) | refine w_leq rfl rfl (fun hc => ?_) (fun hc => ?_) | refine w_gtr rfl rfl (fun hc => ?_) (fun hc => ?_) | refine w_geq rfl rfl (fun hc => ?_) (fun hc => ?_) | refine w_eql rfl rfl (fun hc => ?_) (fun hc => ?_) | refine w_neq rfl rfl (fun hc => ?_) (fun hc => ?_) | refine w_addN rfl rfl (by omega) ?_ | refine w_opk rfl rfl ?_ | refine w_cond_t rfl ?_ | refine w_cond_f rfl ?_ | refine w_skip ?_ | refine w_exit rfl ?_ | refine w_ret ?_ | refine w_rt rfl ?_)
    refine w_rt (l := [.agg [wf, we, .int .i64 T.self, .int .i64 T.next, .int .i64 T.used, .int .u8 T.over, .int .i64 T.trap, .int .i64 T.role, ws]]) (by
      show resV _ _ [.cell 1 true 9] = _
      have e1 := (hR9.at (hi := 9) rfl).agg (n := 9) (Nat.le_refl 9)
      simp only [resV, nth, e1]
      rfl) ⟨⟨_, rfl, wf, we, ws, l, rfl, hw9.rs, ?_, hwe9.rs, be, se, hws9.rs, bs, fun i h1 h2 => by have := nwf i h1; have := hSn i h2; omega, fun i h1 h2 => by have := nwe i h1; have := hSn i h2; omega, fun i h1 h2 => by have := nws i h1; have := hSn i h2; omega⟩, E9⟩
    have hF9 := hF.ext (hE9.mono (fun i hi => by simp at hi; subst hi; exact List.mem_append.2 (.inr (List.mem_cons_self ..))))
    exact ⟨hF9.1, hF9.2.1, fun i a b h1 h2 => by
      obtain ⟨v, s, e, r1, r2, r3, n1, n2⟩ := hF9.2.2 i a b h1 h2
      exact ⟨v, s, e, r1, r2, r3, fun j hj hm => n1 j hj (List.mem_append.2 (.inl hm)), fun j hj hm => n2 j hj (List.mem_append.2 (.inl hm))⟩⟩
end AmT
