/-
  Closed facts of the second row of IrCuts. Conditions: none.
-/
import Derived.Test.YtdeehlcjhmjofaaGreatDoorCards
import Derived.ProofKit
import Derived.JoinedCond
namespace Go.Proofs.YtdeehlcjhmjofaaGreatDoor.irCutsUp
theorem named : Tryz.prog.funcNamed "drover/droverlaw14.IrCuts" = some 9 := by kernel_rfl
theorem factA : (Rows.irCutsUptoRow.inPlace == Tryz.prog.inPlace 9) = true := by kernel_rfl
theorem factB : (Rows.irCutsUptoRow.unfollowed == Tryz.prog.unfollowed 9) = true := by kernel_rfl
end Go.Proofs.YtdeehlcjhmjofaaGreatDoor.irCutsUp
