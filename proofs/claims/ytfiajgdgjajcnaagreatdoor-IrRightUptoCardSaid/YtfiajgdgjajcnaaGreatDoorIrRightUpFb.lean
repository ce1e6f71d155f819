/-
  Closed facts of the second row of IrRight. Conditions: none.
-/
import Derived.Test.YtfiajgdgjajcnaaGreatDoorCards
import Derived.ProofKit
import Derived.SevenTiedAt
namespace Go.Proofs.YtfiajgdgjajcnaaGreatDoor.irRightUp
theorem byText : Rows.irRightUptoRow.wfByText (Rows.OpenSpec.upto Rows.irRightSpec) = true := by kernel_rfl
theorem mainIs : Tryz.pinned.checked.prog.mainIs = some (true, "28f16fcb5e73928c1a5dc4fc370e777bae5314c9276ccde989f0e260621a9929".toList) := by kernel_rfl
end Go.Proofs.YtfiajgdgjajcnaaGreatDoor.irRightUp
