/-
  Closed facts of the second row of IrSums. Conditions: none.
-/
import Derived.Test.YtofigbfckofbmaaGreatDoorIrSumsUpFa
import Derived.Test.YtofigbfckofbmaaGreatDoorIrSumsUpFc
import Derived.ProofKit
import Derived.JoinedCond
namespace Go.Proofs.YtofigbfckofbmaaGreatDoor.irSumsUp
theorem closed : joinedFacts Tryz.prog 3 Tryz.f3 (Rows.OpenSpec.upto Rows.irSumsSpec).bare Rows.irSumsUptoRow = true := by
  unfold joinedFacts
  rw [factA, factB, factC, factD]
  kernel_rfl
end Go.Proofs.YtofigbfckofbmaaGreatDoor.irSumsUp
