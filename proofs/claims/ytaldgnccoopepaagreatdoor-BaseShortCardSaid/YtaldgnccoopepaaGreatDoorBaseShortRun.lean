/-
  The runs of BaseShort at every two truths. Conditions: none.
-/
import Derived.Test.YtaldgnccoopepaaGreatDoorW
namespace AmT
open Go Am Go.Proofs
set_option maxRecDepth 100000
theorem short00 : Memo.ok CC ⟨3, [.bool false, .bool false], .bool true⟩ := memo_run mixed globFlat tOk O2_ok 4000 1000 (by kernel_rfl) (by kernel_rfl)
theorem short01 : Memo.ok CC ⟨3, [.bool false, .bool true], .bool true⟩ := memo_run mixed globFlat tOk O2_ok 4000 1000 (by kernel_rfl) (by kernel_rfl)
theorem short10 : Memo.ok CC ⟨3, [.bool true, .bool false], .bool true⟩ := memo_run mixed globFlat tOk O2_ok 4000 1000 (by kernel_rfl) (by kernel_rfl)
theorem short11 : Memo.ok CC ⟨3, [.bool true, .bool true], .bool true⟩ := memo_run mixed globFlat tOk O2_ok 4000 1000 (by kernel_rfl) (by kernel_rfl)
theorem short (a b : Bool) : Memo.ok CC ⟨3, [.bool a, .bool b], .bool true⟩ := by
  cases a <;> cases b
  · exact short00
  · exact short01
  · exact short10
  · exact short11
end AmT
