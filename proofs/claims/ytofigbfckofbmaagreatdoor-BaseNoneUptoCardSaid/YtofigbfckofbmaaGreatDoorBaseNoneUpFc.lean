/-
  Closed facts of the second row of BaseNone. Conditions: none.
-/
import Derived.Test.YtofigbfckofbmaaGreatDoorCards
import Derived.ProofKit
import Derived.JoinedCond
namespace Go.Proofs.YtofigbfckofbmaaGreatDoor.baseNoneUp
theorem factC : (Rows.baseNoneUptoRow.recurses == Tryz.prog.recurses 7) = true := by kernel_rfl
theorem factD : (Rows.baseNoneUptoRow.named == Tryz.prog.varsNamed 7) = true := by kernel_rfl
end Go.Proofs.YtofigbfckofbmaaGreatDoor.baseNoneUp
