/-
  The program that the chapters' first text is. Conditions: none.
-/
import Derived.Test.YtfiajgdgjajcnaaGreatDoorW
namespace AmT
open Go Am Go.Proofs
set_option maxRecDepth 100000
def textAw : List UInt8 := [97, 99, 116, 111, 114, 32, 99, 40, 110, 41, 32, 123, 32, 111, 110, 32, 97, 100, 100, 40, 120, 41, 32, 123, 32, 115, 101, 116, 32, 110, 32, 61, 32, 110, 32, 43, 32, 120, 59, 32, 125, 32, 125]
def progAw : V := (.agg [.nils, (.vec [(.agg [(.str [99]), (.vec [(.agg [(.str [110])])]), (.vec [(.agg [(.str [97, 100, 100]), (.vec [(.agg [(.str [120])])]), (.vec [(.agg [(.int .u8 (.ofNat 2)), (.str [110]), (.vec [(.agg [(.int .u8 (.ofNat 7)), (.str [43]), (.int .i64 (.ofNat 0)), (.vec [(.agg [(.int .u8 (.ofNat 4)), (.str [110]), (.int .i64 (.ofNat 0)), .nils]), (.agg [(.int .u8 (.ofNat 4)), (.str [120]), (.int .i64 (.ofNat 0)), .nils])])])]), .nils, .nils, (.int .i64 (.ofNat 1))])]), (.int .i64 (.ofNat 1))])]), (.int .i64 (.ofNat 1))])])])
def faultAw : V := (.agg [(.int .i64 (.ofNat 0)), (.int .i64 (.ofNat 0))])
theorem mParseAw {t : Nat → Option V} (ht : FlatT t) : Memo.ok (CC t) ⟨53, [.str textAw], .tuple [progAw, faultAw]⟩ := memo_runR mixed (globFlat ht) (tOk t) (O1_ok ht) 4000 1000 (by kernel_rfl) (by kernel_rfl)
end AmT
