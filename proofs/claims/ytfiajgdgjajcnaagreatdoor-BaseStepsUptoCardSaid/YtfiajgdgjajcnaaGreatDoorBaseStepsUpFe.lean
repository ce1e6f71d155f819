/-
  Closed facts of the second row of BaseSteps. Conditions: none.
-/
import Derived.Test.YtfiajgdgjajcnaaGreatDoorBaseStepsUpFa
import Derived.Test.YtfiajgdgjajcnaaGreatDoorBaseStepsUpFc
import Derived.ProofKit
import Derived.JoinedCond
namespace Go.Proofs.YtfiajgdgjajcnaaGreatDoor.baseStepsUp
theorem closed : joinedFacts Tryz.prog 5 Tryz.f5 (Rows.OpenSpec.upto Rows.baseStepsSpec).bare Rows.baseStepsUptoRow = true := by
  unfold joinedFacts
  rw [factA, factB, factC, factD]
  kernel_rfl
end Go.Proofs.YtfiajgdgjajcnaaGreatDoor.baseStepsUp
