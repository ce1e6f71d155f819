/-
  Closed facts of the row of BaseReckons. Conditions: none.
-/
import Derived.Test.YtflchelidalhnaaGreatDoorCards
import Derived.ProofKit
import Derived.SevenTiedAt
namespace Go.Proofs.YtflchelidalhnaaGreatDoor.baseReckons
theorem goesBy : false = Rows.baseReckonsRow.goesBy Tryz.pinned.checked.prog := by kernel_rfl
theorem looks : true = Tryz.pinned.checked.prog.looks [] := by kernel_rfl
end Go.Proofs.YtflchelidalhnaaGreatDoor.baseReckons
