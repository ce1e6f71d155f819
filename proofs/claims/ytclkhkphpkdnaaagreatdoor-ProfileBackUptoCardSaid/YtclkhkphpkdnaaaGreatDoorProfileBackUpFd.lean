/-
  Closed facts of the second row of ProfileBack. Conditions: none.
-/
import Derived.Test.YtclkhkphpkdnaaaGreatDoorCards
import Derived.ProofKit
import Derived.SevenTiedAt
namespace Go.Proofs.YtclkhkphpkdnaaaGreatDoor.profileBackUp
theorem goesBy : false = Rows.profileBackUptoRow.goesBy Tryz.pinned.checked.prog := by kernel_rfl
theorem looks : true = Tryz.pinned.checked.prog.looks [] := by kernel_rfl
end Go.Proofs.YtclkhkphpkdnaaaGreatDoor.profileBackUp
