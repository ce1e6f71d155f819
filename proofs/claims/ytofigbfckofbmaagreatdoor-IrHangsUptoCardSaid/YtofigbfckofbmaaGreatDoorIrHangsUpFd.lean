/-
  Closed facts of the second row of IrHangs. Conditions: none.
-/
import Derived.Test.YtofigbfckofbmaaGreatDoorCards
import Derived.ProofKit
import Derived.SevenTiedAt
namespace Go.Proofs.YtofigbfckofbmaaGreatDoor.irHangsUp
theorem goesBy : false = Rows.irHangsUptoRow.goesBy Tryz.pinned.checked.prog := by kernel_rfl
theorem looks : true = Tryz.pinned.checked.prog.looks [] := by kernel_rfl
end Go.Proofs.YtofigbfckofbmaaGreatDoor.irHangsUp
