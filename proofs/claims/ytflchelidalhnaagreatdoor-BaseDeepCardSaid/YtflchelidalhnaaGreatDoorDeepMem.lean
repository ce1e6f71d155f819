/-
  The module that BaseDeep's text is. Conditions: none.
-/
import Derived.Test.YtflchelidalhnaaGreatDoorDeepMemP
namespace AmT
open Go Am Go.Proofs
set_option maxRecDepth 100000
def faultDeep2 : V := (.agg [(.int .i64 (.ofNat 0)), (.int .i64 (.ofNat 0))])
theorem mCompDeep {t : Nat → Option V} (ht : FlatT t) : Memo.ok (CC t) ⟨44, [progDeep], .tuple [.agg (modC modDeep), faultDeep2]⟩ := memo_runR mixed (globFlat ht) (tOk t) (O1_ok ht) 4000 1000 (by kernel_rfl) (by kernel_rfl)
def OPC : CallF := memoO [⟨43, [.str textDeep], .tuple [progDeep, faultDeep]⟩, ⟨44, [progDeep], .tuple [.agg (modC modDeep), faultDeep2]⟩]
theorem OPC_ok {t : Nat → Option V} (ht : FlatT t) : CallOk (CC t) OPC := memoO_ok (by simp [mParseDeep ht, mCompDeep ht])
theorem mModDeep {t : Nat → Option V} (ht : FlatT t) : Memo.ok (CC t) ⟨14, [.str textDeep], .agg (modC modDeep)⟩ := memo_runR mixed (globFlat ht) (tOk t) (OPC_ok ht) 4000 1000 (by kernel_rfl) (by kernel_rfl)
theorem mCkDeep {t : Nat → Option V} (ht : FlatT t) : Memo.ok (CC t) ⟨45, [.agg (modC modDeep)], .int .i64 (.ofNat 0)⟩ := memo_runR mixed (globFlat ht) (tOk t) (noO_ok _) 4000 1000 (by kernel_rfl) (by kernel_rfl)
end AmT
