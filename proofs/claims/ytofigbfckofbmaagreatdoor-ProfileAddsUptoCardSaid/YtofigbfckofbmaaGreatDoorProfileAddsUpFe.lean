/-
  Closed facts of the second row of ProfileAdds. Conditions: none.
-/
import Derived.Test.YtofigbfckofbmaaGreatDoorProfileAddsUpFa
import Derived.Test.YtofigbfckofbmaaGreatDoorProfileAddsUpFc
import Derived.ProofKit
import Derived.JoinedCond
namespace Go.Proofs.YtofigbfckofbmaaGreatDoor.profileAddsUp
theorem closed : joinedFacts Tryz.prog 6 Tryz.f6 (Rows.OpenSpec.upto Rows.profileAddsSpec).bare Rows.profileAddsUptoRow = true := by
  unfold joinedFacts
  rw [factA, factB, factC, factD]
  kernel_rfl
end Go.Proofs.YtofigbfckofbmaaGreatDoor.profileAddsUp
