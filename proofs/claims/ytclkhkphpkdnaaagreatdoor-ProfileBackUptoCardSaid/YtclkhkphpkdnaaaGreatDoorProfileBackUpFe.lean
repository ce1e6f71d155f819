/-
  Closed facts of the second row of ProfileBack. Conditions: none.
-/
import Derived.Test.YtclkhkphpkdnaaaGreatDoorProfileBackUpFa
import Derived.Test.YtclkhkphpkdnaaaGreatDoorProfileBackUpFc
import Derived.ProofKit
import Derived.JoinedCond
namespace Go.Proofs.YtclkhkphpkdnaaaGreatDoor.profileBackUp
theorem closed : joinedFacts Tryz.prog 3 Tryz.f3 (Rows.OpenSpec.upto Rows.profileBackSpec).bare Rows.profileBackUptoRow = true := by
  unfold joinedFacts
  rw [factA, factB, factC, factD]
  kernel_rfl
end Go.Proofs.YtclkhkphpkdnaaaGreatDoor.profileBackUp
