/-
  Closed facts of the second row of IrBack. Conditions: none.
-/
import Derived.Test.YtdeehlcjhmjofaaGreatDoorIrBackUpFa
import Derived.Test.YtdeehlcjhmjofaaGreatDoorIrBackUpFc
import Derived.ProofKit
import Derived.JoinedCond
namespace Go.Proofs.YtdeehlcjhmjofaaGreatDoor.irBackUp
theorem closed : joinedFacts Tryz.prog 8 Tryz.f8 (Rows.OpenSpec.upto Rows.irBackSpec).bare Rows.irBackUptoRow = true := by
  unfold joinedFacts
  rw [factA, factB, factC, factD]
  kernel_rfl
end Go.Proofs.YtdeehlcjhmjofaaGreatDoor.irBackUp
