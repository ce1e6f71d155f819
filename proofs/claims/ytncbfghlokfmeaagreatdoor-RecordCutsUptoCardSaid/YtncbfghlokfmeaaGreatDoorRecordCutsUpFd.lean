/-
  Closed facts of the second row of RecordCuts. Conditions: none.
-/
import Derived.Test.YtncbfghlokfmeaaGreatDoorCards
import Derived.ProofKit
import Derived.SevenTiedAt
namespace Go.Proofs.YtncbfghlokfmeaaGreatDoor.recordCutsUp
theorem goesBy : false = Rows.recordCutsUptoRow.goesBy Tryz.pinned.checked.prog := by kernel_rfl
theorem looks : true = Tryz.pinned.checked.prog.looks [] := by kernel_rfl
end Go.Proofs.YtncbfghlokfmeaaGreatDoor.recordCutsUp
