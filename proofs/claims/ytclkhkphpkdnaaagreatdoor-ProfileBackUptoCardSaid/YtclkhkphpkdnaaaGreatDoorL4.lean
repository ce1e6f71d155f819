/-
  Functions of the program as the abstract machine's texts, each proved to be what the translation yields. Conditions: none.
-/
import Derived.Test.YtclkhkphpkdnaaaGreatDoorL0
import Derived.Test.YtclkhkphpkdnaaaGreatDoorProg
import Derived.KernelRfl
namespace AmT
open Go Am Go.Proofs
set_option maxRecDepth 100000
def c282 : AFunc := ⟨1, 2, [0, 2], (.seq (.reg [.n (.mv (.cst (.bool false)))] [(1, 0)]) (.seq (.reg [mV 0, mV 0, .n (.bin .sub .plain (.loc 0) (cI 1)), .n (.bin .and .plain (.loc 2) (.loc 0)), .n (.bin .eql .plain (.loc 0) (cI 0)), mL 0] [(1, 0)]) .ret)), [.var 1]⟩
theorem k282 (t : Nat → Option V) : Ok t 282 c282 := ⟨by kernel_rfl, Tryz.f282, Tryz.func282, by kernel_rfl⟩
def c283 : AFunc := ⟨1, 2, [0, 2], (.seq (.reg [.n (.mv (cI 0))] [(1, 0)]) (.seq (.cond (.cst (.bool false)) (.seq (.reg [mV 0, .n (.toInt .u32 (.loc 0)), .n (.call 284 [(.loc 0)]), mL 0] [(1, 0)]) .ret) .skip) (.seq (.reg [mV 0, .n (.call 285 [(.loc 0)]), mL 0] [(1, 0)]) .ret))), [.var 1]⟩
theorem k283 (t : Nat → Option V) : Ok t 283 c283 := ⟨by kernel_rfl, Tryz.f283, Tryz.func283, by kernel_rfl⟩
def c284 : AFunc := ⟨1, 3, [0, 2, 4], (.seq (.reg [.n (.mv (cI 0))] [(1, 0)]) (.seq (.seq (.reg [mV 0, .n (.bin .eql .plain (.loc 0) (.cst (.int .u32 (.ofNat 0))))] [(2, 0)]) (.cond (.var 2) (.seq (.reg [.n (.mv (cI 32))] [(1, 0)]) .ret) .skip)) (.seq (.reg [mV 0, mV 0, .n (.un .neg (.loc 0)), .n (.bin .and .plain (.loc 2) (.loc 0)), .n (.bin .mul .plain (.loc 0) (.cst (.int .u32 (.ofNat 125613361)))), .n (.bin .shr .plain (.loc 0) (.cst (.int .u64 (.ofNat 27)))), .n (.iadrA 32 1 (.cst .any) (.loc 0)), .n (.load false 1 (.loc 0)), .n (.toInt .i64 (.loc 0)), mL 0] [(1, 0)]) .ret))), [.var 1]⟩
theorem k284 (t : Nat → Option V) : Ok t 284 c284 := ⟨by kernel_rfl, Tryz.f284, Tryz.func284, by kernel_rfl⟩
def c285 : AFunc := ⟨1, 3, [0, 2, 4], (.seq (.reg [.n (.mv (cI 0))] [(1, 0)]) (.seq (.seq (.reg [mV 0, .n (.bin .eql .plain (.loc 0) (.cst (.int .u64 (.ofNat 0))))] [(2, 0)]) (.cond (.var 2) (.seq (.reg [.n (.mv (cI 64))] [(1, 0)]) .ret) .skip)) (.seq (.reg [mV 0, mV 0, .n (.un .neg (.loc 0)), .n (.bin .and .plain (.loc 2) (.loc 0)), .n (.bin .mul .plain (.loc 0) (.cst (.int .u64 (.ofNat 285870213051353865)))), .n (.bin .shr .plain (.loc 0) (.cst (.int .u64 (.ofNat 58)))), .n (.iadrA 64 1 (.cst .any) (.loc 0)), .n (.load false 1 (.loc 0)), .n (.toInt .i64 (.loc 0)), mL 0] [(1, 0)]) .ret))), [.var 1]⟩
theorem k285 (t : Nat → Option V) : Ok t 285 c285 := ⟨by kernel_rfl, Tryz.f285, Tryz.func285, by kernel_rfl⟩
end AmT
