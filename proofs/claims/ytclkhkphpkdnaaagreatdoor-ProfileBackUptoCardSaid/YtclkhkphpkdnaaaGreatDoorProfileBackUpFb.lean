/-
  Closed facts of the second row of ProfileBack. Conditions: none.
-/
import Derived.Test.YtclkhkphpkdnaaaGreatDoorCards
import Derived.ProofKit
import Derived.SevenTiedAt
namespace Go.Proofs.YtclkhkphpkdnaaaGreatDoor.profileBackUp
theorem byText : Rows.profileBackUptoRow.wfByText (Rows.OpenSpec.upto Rows.profileBackSpec) = true := by kernel_rfl
theorem mainIs : Tryz.pinned.checked.prog.mainIs = some (true, "83f3cb994bdbe7c50a0c5b4bf6afd13ffe7cc0e673ab15719161b4302aead268".toList) := by kernel_rfl
end Go.Proofs.YtclkhkphpkdnaaaGreatDoor.profileBackUp
