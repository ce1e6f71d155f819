/-
  Closed facts of the row of BaseEnds. Conditions: none.
-/
import Derived.Test.YtaldgnccoopepaaGreatDoorCards
import Derived.ProofKit
import Derived.SevenTiedAt
namespace Go.Proofs.YtaldgnccoopepaaGreatDoor.baseEnds
theorem byText : Rows.baseEndsRow.wfByText (OpenSpec.ofChange Rows.baseEndsSpec) = true := by kernel_rfl
theorem mainIs : Tryz.pinned.checked.prog.mainIs = some (true, "1b5a4950535dfabff4622e998bbf427c6497ba198477d4ece7662a45d391173b".toList) := by kernel_rfl
end Go.Proofs.YtaldgnccoopepaaGreatDoor.baseEnds
