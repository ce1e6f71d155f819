/-
  The examples of chapter 19. Conditions: none.
-/
import Derived.Test.YtncbfghlokfmeaaGreatDoorW
namespace AmT
open Go Am Go.Proofs
set_option maxRecDepth 100000
theorem mAwake19 {t : Nat → Option V} (ht : FlatT t) : Memo.ok (CC t) ⟨21, [], .bool true⟩ := memo_runR mixed (globFlat ht) (tOk t) (O1_ok ht) 4000 1000 (by kernel_rfl) (by kernel_rfl)
end AmT
