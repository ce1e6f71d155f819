/-
  Closed facts of the second row of IrSums. Conditions: none.
-/
import Derived.Test.YtofigbfckofbmaaGreatDoorCards
import Derived.ProofKit
import Derived.JoinedCond
namespace Go.Proofs.YtofigbfckofbmaaGreatDoor.irSumsUp
theorem factC : (Rows.irSumsUptoRow.recurses == Tryz.prog.recurses 3) = true := by kernel_rfl
theorem factD : (Rows.irSumsUptoRow.named == Tryz.prog.varsNamed 3) = true := by kernel_rfl
end Go.Proofs.YtofigbfckofbmaaGreatDoor.irSumsUp
