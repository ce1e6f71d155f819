/-
  Closed facts of the second row of ProfileBack. Conditions: none.
-/
import Derived.Test.YtclkhkphpkdnaaaGreatDoorCards
import Derived.ProofKit
import Derived.JoinedCond
namespace Go.Proofs.YtclkhkphpkdnaaaGreatDoor.profileBackUp
theorem named : Tryz.prog.funcNamed "drover/droverlaw13.ProfileBack" = some 3 := by kernel_rfl
theorem factA : (Rows.profileBackUptoRow.inPlace == Tryz.prog.inPlace 3) = true := by kernel_rfl
theorem factB : (Rows.profileBackUptoRow.unfollowed == Tryz.prog.unfollowed 3) = true := by kernel_rfl
end Go.Proofs.YtclkhkphpkdnaaaGreatDoor.profileBackUp
