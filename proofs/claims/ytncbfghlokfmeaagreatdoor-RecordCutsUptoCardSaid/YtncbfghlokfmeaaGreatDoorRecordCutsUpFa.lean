/-
  Closed facts of the second row of RecordCuts. Conditions: none.
-/
import Derived.Test.YtncbfghlokfmeaaGreatDoorCards
import Derived.ProofKit
import Derived.JoinedCond
namespace Go.Proofs.YtncbfghlokfmeaaGreatDoor.recordCutsUp
theorem named : Tryz.prog.funcNamed "drover/droverlaw19.RecordCuts" = some 8 := by kernel_rfl
theorem factA : (Rows.recordCutsUptoRow.inPlace == Tryz.prog.inPlace 8) = true := by kernel_rfl
theorem factB : (Rows.recordCutsUptoRow.unfollowed == Tryz.prog.unfollowed 8) = true := by kernel_rfl
end Go.Proofs.YtncbfghlokfmeaaGreatDoor.recordCutsUp
