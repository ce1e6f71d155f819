/-
  Closed facts of the second row of IrBack. Conditions: none.
-/
import Derived.Test.YtdeehlcjhmjofaaGreatDoorCards
import Derived.ProofKit
import Derived.JoinedCond
namespace Go.Proofs.YtdeehlcjhmjofaaGreatDoor.irBackUp
theorem factC : (Rows.irBackUptoRow.recurses == Tryz.prog.recurses 8) = true := by kernel_rfl
theorem factD : (Rows.irBackUptoRow.named == Tryz.prog.varsNamed 8) = true := by kernel_rfl
end Go.Proofs.YtdeehlcjhmjofaaGreatDoor.irBackUp
