/-
  Closed facts of the row of BaseReckons. Conditions: none.
-/
import Derived.Test.YtflchelidalhnaaGreatDoorBaseReckonsFa
import Derived.Test.YtflchelidalhnaaGreatDoorBaseReckonsFc
import Derived.ProofKit
import Derived.JoinedCond
namespace Go.Proofs.YtflchelidalhnaaGreatDoor.baseReckons
theorem closed : joinedFacts Tryz.prog 4 Tryz.f4 (OpenSpec.ofChange Rows.baseReckonsSpec).bare Rows.baseReckonsRow = true := by
  unfold joinedFacts
  rw [factA, factB, factC, factD]
  kernel_rfl
end Go.Proofs.YtflchelidalhnaaGreatDoor.baseReckons
