/-
  Closed facts of the row of BaseOrder. Conditions: none.
-/
import Derived.Test.YtflchelidalhnaaGreatDoorCards
import Derived.ProofKit
import Derived.JoinedCond
namespace Go.Proofs.YtflchelidalhnaaGreatDoor.baseOrder
theorem factC : (Rows.baseOrderRow.recurses == Tryz.prog.recurses 6) = true := by kernel_rfl
theorem factD : (Rows.baseOrderRow.named == Tryz.prog.varsNamed 6) = true := by kernel_rfl
end Go.Proofs.YtflchelidalhnaaGreatDoor.baseOrder
