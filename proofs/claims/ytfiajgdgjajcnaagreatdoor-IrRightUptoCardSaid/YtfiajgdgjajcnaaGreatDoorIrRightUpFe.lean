/-
  Closed facts of the second row of IrRight. Conditions: none.
-/
import Derived.Test.YtfiajgdgjajcnaaGreatDoorIrRightUpFa
import Derived.Test.YtfiajgdgjajcnaaGreatDoorIrRightUpFc
import Derived.ProofKit
import Derived.JoinedCond
namespace Go.Proofs.YtfiajgdgjajcnaaGreatDoor.irRightUp
theorem closed : joinedFacts Tryz.prog 8 Tryz.f8 (Rows.OpenSpec.upto Rows.irRightSpec).bare Rows.irRightUptoRow = true := by
  unfold joinedFacts
  rw [factA, factB, factC, factD]
  kernel_rfl
end Go.Proofs.YtfiajgdgjajcnaaGreatDoor.irRightUp
