/-
  Closed facts of the second row of BaseSteps. Conditions: none.
-/
import Derived.Test.YtfiajgdgjajcnaaGreatDoorCards
import Derived.ProofKit
import Derived.SevenTiedAt
namespace Go.Proofs.YtfiajgdgjajcnaaGreatDoor.baseStepsUp
theorem goesBy : false = Rows.baseStepsUptoRow.goesBy Tryz.pinned.checked.prog := by kernel_rfl
theorem looks : true = Tryz.pinned.checked.prog.looks [] := by kernel_rfl
end Go.Proofs.YtfiajgdgjajcnaaGreatDoor.baseStepsUp
