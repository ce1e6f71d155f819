/-
  Closed facts of the row of BaseDeep. Conditions: none.
-/
import Derived.Test.YtflchelidalhnaaGreatDoorBaseDeepFa
import Derived.Test.YtflchelidalhnaaGreatDoorBaseDeepFc
import Derived.ProofKit
import Derived.JoinedCond
namespace Go.Proofs.YtflchelidalhnaaGreatDoor.baseDeep
theorem closed : joinedFacts Tryz.prog 5 Tryz.f5 (OpenSpec.ofChange Rows.baseDeepSpec).bare Rows.baseDeepRow = true := by
  unfold joinedFacts
  rw [factA, factB, factC, factD]
  kernel_rfl
end Go.Proofs.YtflchelidalhnaaGreatDoor.baseDeep
