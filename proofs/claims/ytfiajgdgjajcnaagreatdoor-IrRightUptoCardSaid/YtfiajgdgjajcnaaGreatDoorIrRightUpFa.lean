/-
  Closed facts of the second row of IrRight. Conditions: none.
-/
import Derived.Test.YtfiajgdgjajcnaaGreatDoorCards
import Derived.ProofKit
import Derived.JoinedCond
namespace Go.Proofs.YtfiajgdgjajcnaaGreatDoor.irRightUp
theorem named : Tryz.prog.funcNamed "drover/droverlaw14.IrRight" = some 8 := by kernel_rfl
theorem factA : (Rows.irRightUptoRow.inPlace == Tryz.prog.inPlace 8) = true := by kernel_rfl
theorem factB : (Rows.irRightUptoRow.unfollowed == Tryz.prog.unfollowed 8) = true := by kernel_rfl
end Go.Proofs.YtfiajgdgjajcnaaGreatDoor.irRightUp
