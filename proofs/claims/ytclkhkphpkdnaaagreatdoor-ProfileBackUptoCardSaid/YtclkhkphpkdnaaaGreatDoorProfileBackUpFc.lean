/-
  Closed facts of the second row of ProfileBack. Conditions: none.
-/
import Derived.Test.YtclkhkphpkdnaaaGreatDoorCards
import Derived.ProofKit
import Derived.JoinedCond
namespace Go.Proofs.YtclkhkphpkdnaaaGreatDoor.profileBackUp
theorem factC : (Rows.profileBackUptoRow.recurses == Tryz.prog.recurses 3) = true := by kernel_rfl
theorem factD : (Rows.profileBackUptoRow.named == Tryz.prog.varsNamed 3) = true := by kernel_rfl
end Go.Proofs.YtclkhkphpkdnaaaGreatDoor.profileBackUp
