/-
  Closed facts of the second row of BaseNone. Conditions: none.
-/
import Derived.Test.YtofigbfckofbmaaGreatDoorBaseNoneUpFa
import Derived.Test.YtofigbfckofbmaaGreatDoorBaseNoneUpFc
import Derived.ProofKit
import Derived.JoinedCond
namespace Go.Proofs.YtofigbfckofbmaaGreatDoor.baseNoneUp
theorem closed : joinedFacts Tryz.prog 7 Tryz.f7 (Rows.OpenSpec.upto Rows.baseNoneSpec).bare Rows.baseNoneUptoRow = true := by
  unfold joinedFacts
  rw [factA, factB, factC, factD]
  kernel_rfl
end Go.Proofs.YtofigbfckofbmaaGreatDoor.baseNoneUp
