/-
  Closed facts of the second row of BaseNone. Conditions: none.
-/
import Derived.Test.YtofigbfckofbmaaGreatDoorCards
import Derived.ProofKit
import Derived.SevenTiedAt
namespace Go.Proofs.YtofigbfckofbmaaGreatDoor.baseNoneUp
theorem goesBy : false = Rows.baseNoneUptoRow.goesBy Tryz.pinned.checked.prog := by kernel_rfl
theorem looks : true = Tryz.pinned.checked.prog.looks [] := by kernel_rfl
end Go.Proofs.YtofigbfckofbmaaGreatDoor.baseNoneUp
