/-
  Closed facts of the second row of BaseSteps. Conditions: none.
-/
import Derived.Test.YtfiajgdgjajcnaaGreatDoorCards
import Derived.ProofKit
import Derived.JoinedCond
namespace Go.Proofs.YtfiajgdgjajcnaaGreatDoor.baseStepsUp
theorem factC : (Rows.baseStepsUptoRow.recurses == Tryz.prog.recurses 5) = true := by kernel_rfl
theorem factD : (Rows.baseStepsUptoRow.named == Tryz.prog.varsNamed 5) = true := by kernel_rfl
end Go.Proofs.YtfiajgdgjajcnaaGreatDoor.baseStepsUp
