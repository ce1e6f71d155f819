/-
  Closed facts of the row of BaseDeep. Conditions: none.
-/
import Derived.Test.YtflchelidalhnaaGreatDoorCards
import Derived.ProofKit
import Derived.JoinedCond
namespace Go.Proofs.YtflchelidalhnaaGreatDoor.baseDeep
theorem factC : (Rows.baseDeepRow.recurses == Tryz.prog.recurses 5) = true := by kernel_rfl
theorem factD : (Rows.baseDeepRow.named == Tryz.prog.varsNamed 5) = true := by kernel_rfl
end Go.Proofs.YtflchelidalhnaaGreatDoor.baseDeep
