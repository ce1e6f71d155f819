/-
  The examples of chapter 14. Conditions: none.
-/
import Derived.Test.YtfiajgdgjajcnaaGreatDoorA12M
import Derived.Test.YtfiajgdgjajcnaaGreatDoorShelf
namespace AmT
open Go Am Go.Proofs
set_option maxRecDepth 100000
def OMw : CallF := memoO [⟨15, [.str textAw], modAw⟩]
theorem OMw_ok {t : Nat → Option V} (ht : FlatT t) : CallOk (CC t) OMw := memoO_ok (by simp [mModAw ht])
theorem joinO_ok (t : Nat → Option V) : CallOk (CC t) (oJoin 147) := oJoin_ok (by kernel_rfl) Tryz.strings_Join_none Tryz.strings_Join
theorem mAwake14 {t : Nat → Option V} (ht : FlatT t) : Memo.ok (CC t) ⟨34, [], .bool true⟩ := memo_runR mixed (globFlat ht) (tOk t) (orO_ok (OMw_ok ht) (joinO_ok t)) 4000 1000 (by kernel_rfl) (by kernel_rfl)
end AmT
