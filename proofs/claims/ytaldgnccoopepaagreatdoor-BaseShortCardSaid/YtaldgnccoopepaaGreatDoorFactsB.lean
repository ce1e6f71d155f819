/-
  More closed facts of the row of BaseShort. Conditions: none.
-/
import Derived.Test.YtaldgnccoopepaaGreatDoorCards
import Derived.ProofKit
import Derived.SevenTiedAt
namespace Go.Proofs.YtaldgnccoopepaaGreatDoor.baseShort
theorem byText : Rows.baseShortRow.wfByText (OpenSpec.ofChange Rows.baseShortSpec) = true := by kernel_rfl
theorem mainIs : Tryz.pinned.checked.prog.mainIs = some (true, "1b5a4950535dfabff4622e998bbf427c6497ba198477d4ece7662a45d391173b".toList) := by kernel_rfl
theorem goesBy : false = Rows.baseShortRow.goesBy Tryz.pinned.checked.prog := by kernel_rfl
theorem looks : true = Tryz.pinned.checked.prog.looks [] := by kernel_rfl
end Go.Proofs.YtaldgnccoopepaaGreatDoor.baseShort
