/-
  Closed facts of the row of BaseReckons. Conditions: none.
-/
import Derived.Test.YtflchelidalhnaaGreatDoorCards
import Derived.ProofKit
import Derived.JoinedCond
namespace Go.Proofs.YtflchelidalhnaaGreatDoor.baseReckons
theorem factC : (Rows.baseReckonsRow.recurses == Tryz.prog.recurses 4) = true := by kernel_rfl
theorem factD : (Rows.baseReckonsRow.named == Tryz.prog.varsNamed 4) = true := by kernel_rfl
end Go.Proofs.YtflchelidalhnaaGreatDoor.baseReckons
