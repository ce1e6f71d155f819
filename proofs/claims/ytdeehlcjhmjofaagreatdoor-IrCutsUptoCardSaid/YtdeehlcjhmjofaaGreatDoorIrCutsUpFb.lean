/-
  Closed facts of the second row of IrCuts. Conditions: none.
-/
import Derived.Test.YtdeehlcjhmjofaaGreatDoorCards
import Derived.ProofKit
import Derived.SevenTiedAt
namespace Go.Proofs.YtdeehlcjhmjofaaGreatDoor.irCutsUp
theorem byText : Rows.irCutsUptoRow.wfByText (Rows.OpenSpec.upto Rows.irCutsSpec) = true := by kernel_rfl
theorem mainIs : Tryz.pinned.checked.prog.mainIs = some (true, "4e782746d22a0d5088512cf6d1e5d108370a520f110871ee5a17627e5df2622e".toList) := by kernel_rfl
end Go.Proofs.YtdeehlcjhmjofaaGreatDoor.irCutsUp
