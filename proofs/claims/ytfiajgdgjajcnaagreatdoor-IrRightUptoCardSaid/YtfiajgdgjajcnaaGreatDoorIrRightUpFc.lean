/-
  Closed facts of the second row of IrRight. Conditions: none.
-/
import Derived.Test.YtfiajgdgjajcnaaGreatDoorCards
import Derived.ProofKit
import Derived.JoinedCond
namespace Go.Proofs.YtfiajgdgjajcnaaGreatDoor.irRightUp
theorem factC : (Rows.irRightUptoRow.recurses == Tryz.prog.recurses 8) = true := by kernel_rfl
theorem factD : (Rows.irRightUptoRow.named == Tryz.prog.varsNamed 8) = true := by kernel_rfl
end Go.Proofs.YtfiajgdgjajcnaaGreatDoor.irRightUp
