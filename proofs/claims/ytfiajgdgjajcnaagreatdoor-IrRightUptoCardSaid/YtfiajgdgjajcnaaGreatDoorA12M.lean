/-
  The module that the chapters' first text is. Conditions: none.
-/
import Derived.Test.YtfiajgdgjajcnaaGreatDoorA12P
namespace AmT
open Go Am Go.Proofs
set_option maxRecDepth 100000
def modAw : V := (.agg [.nils, .nils, (.vec [(.agg [(.str [97, 100, 100]), (.int .i64 (.ofNat 2)), (.int .i64 (.ofNat 2)), (.vec [(.agg [(.int .u8 (.ofNat 2)), (.int .i64 (.ofNat 0)), (.int .i64 (.ofNat 0))]), (.agg [(.int .u8 (.ofNat 2)), (.int .i64 (.ofNat 1)), (.int .i64 (.ofNat 0))]), (.agg [(.int .u8 (.ofNat 4)), (.int .i64 (.ofNat 0)), (.int .i64 (.ofNat 0))]), (.agg [(.int .u8 (.ofNat 3)), (.int .i64 (.ofNat 0)), (.int .i64 (.ofNat 0))]), (.agg [(.int .u8 (.ofNat 34)), (.int .i64 (.ofNat 0)), (.int .i64 (.ofNat 0))])])])]), (.vec [(.agg [(.str [99]), (.int .i64 (.ofNat 1)), (.vec [(.agg [(.str [97, 100, 100]), (.int .i64 (.ofNat 1)), (.int .i64 (.ofNat 0))])])])])])
theorem mCompAw {t : Nat → Option V} (ht : FlatT t) : Memo.ok (CC t) ⟨54, [progAw], .tuple [modAw, faultAw]⟩ := memo_runR mixed (globFlat ht) (tOk t) (O1_ok ht) 4000 1000 (by kernel_rfl) (by kernel_rfl)
def OAw : CallF := memoO [⟨53, [.str textAw], .tuple [progAw, faultAw]⟩, ⟨54, [progAw], .tuple [modAw, faultAw]⟩]
theorem OAw_ok {t : Nat → Option V} (ht : FlatT t) : CallOk (CC t) OAw := memoO_ok (by simp [mParseAw ht, mCompAw ht])
theorem mModAw {t : Nat → Option V} (ht : FlatT t) : Memo.ok (CC t) ⟨15, [.str textAw], modAw⟩ := memo_runR mixed (globFlat ht) (tOk t) (OAw_ok ht) 4000 1000 (by kernel_rfl) (by kernel_rfl)
end AmT
