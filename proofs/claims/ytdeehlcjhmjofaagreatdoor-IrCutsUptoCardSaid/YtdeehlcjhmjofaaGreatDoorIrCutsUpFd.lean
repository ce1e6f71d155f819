/-
  Closed facts of the second row of IrCuts. Conditions: none.
-/
import Derived.Test.YtdeehlcjhmjofaaGreatDoorCards
import Derived.ProofKit
import Derived.SevenTiedAt
namespace Go.Proofs.YtdeehlcjhmjofaaGreatDoor.irCutsUp
theorem goesBy : false = Rows.irCutsUptoRow.goesBy Tryz.pinned.checked.prog := by kernel_rfl
theorem looks : true = Tryz.pinned.checked.prog.looks [] := by kernel_rfl
end Go.Proofs.YtdeehlcjhmjofaaGreatDoor.irCutsUp
