/-
  Closed facts of the second row of IrCuts. Conditions: none.
-/
import Derived.Test.YtdeehlcjhmjofaaGreatDoorIrCutsUpFa
import Derived.Test.YtdeehlcjhmjofaaGreatDoorIrCutsUpFc
import Derived.ProofKit
import Derived.JoinedCond
namespace Go.Proofs.YtdeehlcjhmjofaaGreatDoor.irCutsUp
theorem closed : joinedFacts Tryz.prog 9 Tryz.f9 (Rows.OpenSpec.upto Rows.irCutsSpec).bare Rows.irCutsUptoRow = true := by
  unfold joinedFacts
  rw [factA, factB, factC, factD]
  kernel_rfl
end Go.Proofs.YtdeehlcjhmjofaaGreatDoor.irCutsUp
