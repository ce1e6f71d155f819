/-
  The module that BaseOrder's text is. Conditions: none.
-/
import Derived.Test.YtflchelidalhnaaGreatDoorOrdMemP
namespace AmT
open Go Am Go.Proofs
set_option maxRecDepth 100000
def faultOrd2 : V := (.agg [(.int .i64 (.ofNat 0)), (.int .i64 (.ofNat 0))])
theorem mCompOrd {t : Nat → Option V} (ht : FlatT t) : Memo.ok (CC t) ⟨44, [progOrd], .tuple [.agg (modC modOrder), faultOrd2]⟩ := memo_runR mixed (globFlat ht) (tOk t) (O1_ok ht) 4000 1000 (by kernel_rfl) (by kernel_rfl)
def OPO : CallF := memoO [⟨43, [.str textOrder], .tuple [progOrd, faultOrd]⟩, ⟨44, [progOrd], .tuple [.agg (modC modOrder), faultOrd2]⟩]
theorem OPO_ok {t : Nat → Option V} (ht : FlatT t) : CallOk (CC t) OPO := memoO_ok (by simp [mParseOrd ht, mCompOrd ht])
theorem mModOrd {t : Nat → Option V} (ht : FlatT t) : Memo.ok (CC t) ⟨14, [.str textOrder], .agg (modC modOrder)⟩ := memo_runR mixed (globFlat ht) (tOk t) (OPO_ok ht) 4000 1000 (by kernel_rfl) (by kernel_rfl)
theorem mCkOrd {t : Nat → Option V} (ht : FlatT t) : Memo.ok (CC t) ⟨45, [.agg (modC modOrder)], .int .i64 (.ofNat 0)⟩ := memo_runR mixed (globFlat ht) (tOk t) (noO_ok _) 4000 1000 (by kernel_rfl) (by kernel_rfl)
end AmT
