/-
  The module that BaseSums's text is. Conditions: none.
-/
import Derived.Test.YtfiajgdgjajcnaaGreatDoorSumMemP
namespace AmT
open Go Am Go.Proofs
set_option maxRecDepth 100000
def faultSums2 : V := (.agg [(.int .i64 (.ofNat 0)), (.int .i64 (.ofNat 0))])
theorem mCompSums {t : Nat → Option V} (ht : FlatT t) : Memo.ok (CC t) ⟨54, [progSums], .tuple [.agg (modC modSums), faultSums2]⟩ := memo_runR mixed (globFlat ht) (tOk t) (O1_ok ht) 4000 1000 (by kernel_rfl) (by kernel_rfl)
def OPS : CallF := memoO [⟨53, [.str textSums], .tuple [progSums, faultSums]⟩, ⟨54, [progSums], .tuple [.agg (modC modSums), faultSums2]⟩]
theorem OPS_ok {t : Nat → Option V} (ht : FlatT t) : CallOk (CC t) OPS := memoO_ok (by simp [mParseSums ht, mCompSums ht])
theorem mModSums {t : Nat → Option V} (ht : FlatT t) : Memo.ok (CC t) ⟨15, [.str textSums], .agg (modC modSums)⟩ := memo_runR mixed (globFlat ht) (tOk t) (OPS_ok ht) 4000 1000 (by kernel_rfl) (by kernel_rfl)
theorem mCkSums {t : Nat → Option V} (ht : FlatT t) : Memo.ok (CC t) ⟨32, [.agg (modC modSums)], .int .i64 (.ofNat 0)⟩ := memo_runR mixed (globFlat ht) (tOk t) (noO_ok _) 4000 1000 (by kernel_rfl) (by kernel_rfl)
end AmT
