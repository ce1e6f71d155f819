/-
  Closed facts of the second row of IrNeeds. Conditions: none.
-/
import Derived.Test.YtofigbfckofbmaaGreatDoorCards
import Derived.ProofKit
import Derived.JoinedCond
namespace Go.Proofs.YtofigbfckofbmaaGreatDoor.irNeedsUp
theorem factC : (Rows.irNeedsUptoRow.recurses == Tryz.prog.recurses 5) = true := by kernel_rfl
theorem factD : (Rows.irNeedsUptoRow.named == Tryz.prog.varsNamed 5) = true := by kernel_rfl
end Go.Proofs.YtofigbfckofbmaaGreatDoor.irNeedsUp
