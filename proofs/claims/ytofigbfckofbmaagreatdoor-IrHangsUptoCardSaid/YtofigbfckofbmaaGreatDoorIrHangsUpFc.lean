/-
  Closed facts of the second row of IrHangs. Conditions: none.
-/
import Derived.Test.YtofigbfckofbmaaGreatDoorCards
import Derived.ProofKit
import Derived.JoinedCond
namespace Go.Proofs.YtofigbfckofbmaaGreatDoor.irHangsUp
theorem factC : (Rows.irHangsUptoRow.recurses == Tryz.prog.recurses 4) = true := by kernel_rfl
theorem factD : (Rows.irHangsUptoRow.named == Tryz.prog.varsNamed 4) = true := by kernel_rfl
end Go.Proofs.YtofigbfckofbmaaGreatDoor.irHangsUp
