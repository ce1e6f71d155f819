/-
  Closed facts of the second row of BaseSteps. Conditions: none.
-/
import Derived.Test.YtfiajgdgjajcnaaGreatDoorCards
import Derived.ProofKit
import Derived.JoinedCond
namespace Go.Proofs.YtfiajgdgjajcnaaGreatDoor.baseStepsUp
theorem named : Tryz.prog.funcNamed "drover/droverlaw12.BaseSteps" = some 5 := by kernel_rfl
theorem factA : (Rows.baseStepsUptoRow.inPlace == Tryz.prog.inPlace 5) = true := by kernel_rfl
theorem factB : (Rows.baseStepsUptoRow.unfollowed == Tryz.prog.unfollowed 5) = true := by kernel_rfl
end Go.Proofs.YtfiajgdgjajcnaaGreatDoor.baseStepsUp
