/-
  Closed facts of the second row of RecordCuts. Conditions: none.
-/
import Derived.Test.YtncbfghlokfmeaaGreatDoorCards
import Derived.ProofKit
import Derived.SevenTiedAt
namespace Go.Proofs.YtncbfghlokfmeaaGreatDoor.recordCutsUp
theorem byText : Rows.recordCutsUptoRow.wfByText (Rows.OpenSpec.upto Rows.recordCutsSpec) = true := by kernel_rfl
theorem mainIs : Tryz.pinned.checked.prog.mainIs = some (true, "e8ee9a205db916c32b64d65f1c5bc06bd69383cf33bf206a56e751de5e6ef446".toList) := by kernel_rfl
end Go.Proofs.YtncbfghlokfmeaaGreatDoor.recordCutsUp
