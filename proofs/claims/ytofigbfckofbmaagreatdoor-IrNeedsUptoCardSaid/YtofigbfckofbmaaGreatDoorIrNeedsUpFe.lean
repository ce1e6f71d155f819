/-
  Closed facts of the second row of IrNeeds. Conditions: none.
-/
import Derived.Test.YtofigbfckofbmaaGreatDoorIrNeedsUpFa
import Derived.Test.YtofigbfckofbmaaGreatDoorIrNeedsUpFc
import Derived.ProofKit
import Derived.JoinedCond
namespace Go.Proofs.YtofigbfckofbmaaGreatDoor.irNeedsUp
theorem closed : joinedFacts Tryz.prog 5 Tryz.f5 (Rows.OpenSpec.upto Rows.irNeedsSpec).bare Rows.irNeedsUptoRow = true := by
  unfold joinedFacts
  rw [factA, factB, factC, factD]
  kernel_rfl
end Go.Proofs.YtofigbfckofbmaaGreatDoor.irNeedsUp
