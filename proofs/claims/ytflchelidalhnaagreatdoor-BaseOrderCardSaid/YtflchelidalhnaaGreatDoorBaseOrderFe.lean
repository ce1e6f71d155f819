/-
  Closed facts of the row of BaseOrder. Conditions: none.
-/
import Derived.Test.YtflchelidalhnaaGreatDoorBaseOrderFa
import Derived.Test.YtflchelidalhnaaGreatDoorBaseOrderFc
import Derived.ProofKit
import Derived.JoinedCond
namespace Go.Proofs.YtflchelidalhnaaGreatDoor.baseOrder
theorem closed : joinedFacts Tryz.prog 6 Tryz.f6 (OpenSpec.ofChange Rows.baseOrderSpec).bare Rows.baseOrderRow = true := by
  unfold joinedFacts
  rw [factA, factB, factC, factD]
  kernel_rfl
end Go.Proofs.YtflchelidalhnaaGreatDoor.baseOrder
