/-
  Bytes that are equal. Conditions: none.
-/
import Derived.Test.YtncbfghlokfmeaaGreatDoorEnc
namespace AmT
open Go Am
set_option maxRecDepth 100000
set_option maxHeartbeats 8000000
set_option linter.unusedSimpArgs false
set_option linter.unusedVariables false
variable {O : CallF}

theorem bytesEq_ok (hO : ∀ a h, O 23 a h = none) {h0 : Heap} {va vb : V} {a b : List Nat} (ra : RS h0 1 va (a.map byteC)) (rb : RS h0 1 vb (b.map byteC)) (ha : Bytes a) (hb : Bytes b) :
    WPc tab.get O 23 [va, vb] h0 (fun v h' => (∃ r, v = .bool r ∧ (r = true ↔ a = b)) ∧ h' = h0) := by
  refine w_fn' (hO _ _) rfl rfl (by simp only [c23, initV, nth] <;> rfl) ?_
  repeat' (first | refine w_seq ?_ | refine w_reg ?_ | refine w_e ?_ | refine w_opq rfl rfl ?_)
  refine w_toStr rfl ra ?_
  repeat' (first | refine w_opq rfl rfl ?_)
  refine w_toStr rfl rb ?_
  refine w_eqS rfl rfl ?_
  repeat' (first | refine w_e ?_ | refine w_opk rfl rfl ?_ | refine w_ret ?_ | refine w_rt rfl ?_)
  exact ⟨⟨_, rfl, by rw [eqBytes_iff, u8_inj ha hb]⟩, rfl⟩

end AmT
