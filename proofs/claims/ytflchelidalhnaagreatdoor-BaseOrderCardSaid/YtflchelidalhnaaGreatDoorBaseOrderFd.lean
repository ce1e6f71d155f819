/-
  Closed facts of the row of BaseOrder. Conditions: none.
-/
import Derived.Test.YtflchelidalhnaaGreatDoorCards
import Derived.ProofKit
import Derived.SevenTiedAt
namespace Go.Proofs.YtflchelidalhnaaGreatDoor.baseOrder
theorem goesBy : false = Rows.baseOrderRow.goesBy Tryz.pinned.checked.prog := by kernel_rfl
theorem looks : true = Tryz.pinned.checked.prog.looks [] := by kernel_rfl
end Go.Proofs.YtflchelidalhnaaGreatDoor.baseOrder
