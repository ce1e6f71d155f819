/-
  The examples of chapter 12. Conditions: none.
-/
import Derived.Test.YtfiajgdgjajcnaaGreatDoorA12M
namespace AmT
open Go Am Go.Proofs
set_option maxRecDepth 100000
def OMw : CallF := memoO [⟨15, [.str textAw], modAw⟩]
theorem OMw_ok {t : Nat → Option V} (ht : FlatT t) : CallOk (CC t) OMw := memoO_ok (by simp [mModAw ht])
theorem mAwake12 {t : Nat → Option V} (ht : FlatT t) : Memo.ok (CC t) ⟨21, [], .bool true⟩ := memo_runR mixed (globFlat ht) (tOk t) (OMw_ok ht) 4000 1000 (by kernel_rfl) (by kernel_rfl)
def O2 : CallF := memoO [⟨21, [], .bool true⟩, ⟨276, [.str kwT], kwV⟩]
theorem O2_ok {t : Nat → Option V} (ht : FlatT t) : CallOk (CC t) O2 := memoO_ok (by simp [mFields ht, mAwake12 ht])
end AmT
