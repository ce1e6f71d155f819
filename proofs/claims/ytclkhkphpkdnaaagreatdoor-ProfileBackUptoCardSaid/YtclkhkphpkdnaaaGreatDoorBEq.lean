/-
  Bytes that are equal. Conditions: none.
-/
import Derived.Test.YtclkhkphpkdnaaaGreatDoorEnc
namespace AmT
open Go Am
set_option maxRecDepth 100000
set_option maxHeartbeats 8000000
set_option linter.unusedSimpArgs false
set_option linter.unusedVariables false
variable {O : CallF}

theorem bytesEq_ok (hO : ∀ a h, O 11 a h = none) {h0 : Heap} {va vb : V} {a b : List Nat} (ra : RS h0 1 va (a.map byteC)) (rb : RS h0 1 vb (b.map byteC)) (ha : Bytes a) (hb : Bytes b) :
    WPc tab.get O 11 [va, vb] h0 (fun v h' => (∃ r, v = .bool r ∧ (r = true ↔ a = b)) ∧ h' = h0) := by
  refine w_fn' (hO _ _) rfl rfl (by simp only [c11, initV, nth] <;> rfl) ?_
  repeat' (first | refine w_seq ?_ | refine w_reg ?_ | refine w_end (by simp only [outsV, nth, setV, List.take_succ_cons, List.take_zero, List.length_cons, List.length_nil, Nat.zero_add, Nat.reduceAdd] <;> rfl) ?_ | refine w_opq rfl rfl ?_)
  refine w_toStr rfl ra ?_
  repeat' (first | refine w_opq rfl rfl ?_)
  refine w_toStr rfl rb ?_
  refine w_eqS rfl rfl ?_
  repeat' (first | refine w_end (by simp only [outsV, nth, setV, List.take_succ_cons, List.take_zero, List.length_cons, List.length_nil, Nat.zero_add, Nat.reduceAdd] <;> rfl) ?_ | refine w_opk rfl rfl ?_ | refine w_ret ?_ | refine w_rt rfl ?_)
  exact ⟨⟨_, rfl, by rw [eqBytes_iff, u8_inj ha hb]⟩, rfl⟩

end AmT
