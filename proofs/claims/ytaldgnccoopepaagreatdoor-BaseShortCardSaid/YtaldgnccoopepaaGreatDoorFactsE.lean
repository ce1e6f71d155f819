/-
  Closed facts of the row of BaseShort. Conditions: none.
-/
import Derived.Test.YtaldgnccoopepaaGreatDoorFacts
import Derived.Test.YtaldgnccoopepaaGreatDoorFactsC
import Derived.ProofKit
import Derived.JoinedCond
namespace Go.Proofs.YtaldgnccoopepaaGreatDoor.baseShort
theorem closed : joinedFacts Tryz.prog 3 Tryz.f3 (OpenSpec.ofChange Rows.baseShortSpec).bare Rows.baseShortRow = true := by
  unfold joinedFacts
  rw [factA, factB, factC, factD]
  kernel_rfl
end Go.Proofs.YtaldgnccoopepaaGreatDoor.baseShort
