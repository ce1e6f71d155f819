/-
  Closed facts of the second row of IrRight. Conditions: none.
-/
import Derived.Test.YtfiajgdgjajcnaaGreatDoorCards
import Derived.ProofKit
import Derived.SevenTiedAt
namespace Go.Proofs.YtfiajgdgjajcnaaGreatDoor.irRightUp
theorem goesBy : false = Rows.irRightUptoRow.goesBy Tryz.pinned.checked.prog := by kernel_rfl
theorem looks : true = Tryz.pinned.checked.prog.looks [] := by kernel_rfl
end Go.Proofs.YtfiajgdgjajcnaaGreatDoor.irRightUp
