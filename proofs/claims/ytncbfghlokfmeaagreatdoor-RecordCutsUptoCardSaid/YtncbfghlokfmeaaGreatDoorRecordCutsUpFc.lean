/-
  Closed facts of the second row of RecordCuts. Conditions: none.
-/
import Derived.Test.YtncbfghlokfmeaaGreatDoorCards
import Derived.ProofKit
import Derived.JoinedCond
namespace Go.Proofs.YtncbfghlokfmeaaGreatDoor.recordCutsUp
theorem factC : (Rows.recordCutsUptoRow.recurses == Tryz.prog.recurses 8) = true := by kernel_rfl
theorem factD : (Rows.recordCutsUptoRow.named == Tryz.prog.varsNamed 8) = true := by kernel_rfl
end Go.Proofs.YtncbfghlokfmeaaGreatDoor.recordCutsUp
