/-
  Closed facts of the second row of BaseSums. Conditions: none.
-/
import Derived.Test.YtfiajgdgjajcnaaGreatDoorBaseSumsUpFa
import Derived.Test.YtfiajgdgjajcnaaGreatDoorBaseSumsUpFc
import Derived.ProofKit
import Derived.JoinedCond
namespace Go.Proofs.YtfiajgdgjajcnaaGreatDoor.baseSumsUp
theorem closed : joinedFacts Tryz.prog 3 Tryz.f3 (Rows.OpenSpec.upto Rows.baseSumsSpec).bare Rows.baseSumsUptoRow = true := by
  unfold joinedFacts
  rw [factA, factB, factC, factD]
  kernel_rfl
end Go.Proofs.YtfiajgdgjajcnaaGreatDoor.baseSumsUp
