/-
  Closed facts of the second row of IrBack. Conditions: none.
-/
import Derived.Test.YtdeehlcjhmjofaaGreatDoorCards
import Derived.ProofKit
import Derived.JoinedCond
namespace Go.Proofs.YtdeehlcjhmjofaaGreatDoor.irBackUp
theorem named : Tryz.prog.funcNamed "drover/droverlaw14.IrBack" = some 8 := by kernel_rfl
theorem factA : (Rows.irBackUptoRow.inPlace == Tryz.prog.inPlace 8) = true := by kernel_rfl
theorem factB : (Rows.irBackUptoRow.unfollowed == Tryz.prog.unfollowed 8) = true := by kernel_rfl
end Go.Proofs.YtdeehlcjhmjofaaGreatDoor.irBackUp
