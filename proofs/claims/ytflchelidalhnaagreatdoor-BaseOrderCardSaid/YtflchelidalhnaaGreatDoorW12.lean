/-
  The examples of chapter 12. Conditions: none.
-/
import Derived.Test.YtflchelidalhnaaGreatDoorW
namespace AmT
open Go Am Go.Proofs
set_option maxRecDepth 100000
theorem mAwake12 {t : Nat → Option V} (ht : FlatT t) : Memo.ok (CC t) ⟨20, [], .bool true⟩ := memo_runR mixed (globFlat ht) (tOk t) (O1_ok ht) 4000 1000 (by kernel_rfl) (by kernel_rfl)
def O2 : CallF := memoO [⟨20, [], .bool true⟩, ⟨194, [.str kwT], kwV⟩]
theorem O2_ok {t : Nat → Option V} (ht : FlatT t) : CallOk (CC t) O2 := memoO_ok (by simp [mFields ht, mAwake12 ht])
end AmT
