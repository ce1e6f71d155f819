/-
  Closed facts of the second row of IrHangs. Conditions: none.
-/
import Derived.Test.YtofigbfckofbmaaGreatDoorIrHangsUpFa
import Derived.Test.YtofigbfckofbmaaGreatDoorIrHangsUpFc
import Derived.ProofKit
import Derived.JoinedCond
namespace Go.Proofs.YtofigbfckofbmaaGreatDoor.irHangsUp
theorem closed : joinedFacts Tryz.prog 4 Tryz.f4 (Rows.OpenSpec.upto Rows.irHangsSpec).bare Rows.irHangsUptoRow = true := by
  unfold joinedFacts
  rw [factA, factB, factC, factD]
  kernel_rfl
end Go.Proofs.YtofigbfckofbmaaGreatDoor.irHangsUp
