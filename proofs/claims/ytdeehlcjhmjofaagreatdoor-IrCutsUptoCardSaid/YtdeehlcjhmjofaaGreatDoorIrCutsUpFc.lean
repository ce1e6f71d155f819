/-
  Closed facts of the second row of IrCuts. Conditions: none.
-/
import Derived.Test.YtdeehlcjhmjofaaGreatDoorCards
import Derived.ProofKit
import Derived.JoinedCond
namespace Go.Proofs.YtdeehlcjhmjofaaGreatDoor.irCutsUp
theorem factC : (Rows.irCutsUptoRow.recurses == Tryz.prog.recurses 9) = true := by kernel_rfl
theorem factD : (Rows.irCutsUptoRow.named == Tryz.prog.varsNamed 9) = true := by kernel_rfl
end Go.Proofs.YtdeehlcjhmjofaaGreatDoor.irCutsUp
