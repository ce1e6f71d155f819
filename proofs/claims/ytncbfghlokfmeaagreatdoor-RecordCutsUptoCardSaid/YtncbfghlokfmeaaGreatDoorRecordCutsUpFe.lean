/-
  Closed facts of the second row of RecordCuts. Conditions: none.
-/
import Derived.Test.YtncbfghlokfmeaaGreatDoorRecordCutsUpFa
import Derived.Test.YtncbfghlokfmeaaGreatDoorRecordCutsUpFc
import Derived.ProofKit
import Derived.JoinedCond
namespace Go.Proofs.YtncbfghlokfmeaaGreatDoor.recordCutsUp
theorem closed : joinedFacts Tryz.prog 8 Tryz.f8 (Rows.OpenSpec.upto Rows.recordCutsSpec).bare Rows.recordCutsUptoRow = true := by
  unfold joinedFacts
  rw [factA, factB, factC, factD]
  kernel_rfl
end Go.Proofs.YtncbfghlokfmeaaGreatDoor.recordCutsUp
