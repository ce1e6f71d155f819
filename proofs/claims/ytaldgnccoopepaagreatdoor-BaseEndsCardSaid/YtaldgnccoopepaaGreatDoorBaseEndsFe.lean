/-
  Closed facts of the row of BaseEnds. Conditions: none.
-/
import Derived.Test.YtaldgnccoopepaaGreatDoorBaseEndsFa
import Derived.Test.YtaldgnccoopepaaGreatDoorBaseEndsFc
import Derived.ProofKit
import Derived.JoinedCond
namespace Go.Proofs.YtaldgnccoopepaaGreatDoor.baseEnds
theorem closed : joinedFacts Tryz.prog 4 Tryz.f4 (OpenSpec.ofChange Rows.baseEndsSpec).bare Rows.baseEndsRow = true := by
  unfold joinedFacts
  rw [factA, factB, factC, factD]
  kernel_rfl
end Go.Proofs.YtaldgnccoopepaaGreatDoor.baseEnds
