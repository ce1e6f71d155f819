/-
  Closed facts of the second row of IrHangs. Conditions: none.
-/
import Derived.Test.YtofigbfckofbmaaGreatDoorCards
import Derived.ProofKit
import Derived.JoinedCond
namespace Go.Proofs.YtofigbfckofbmaaGreatDoor.irHangsUp
theorem named : Tryz.prog.funcNamed "drover/droverlaw14.IrHangs" = some 4 := by kernel_rfl
theorem factA : (Rows.irHangsUptoRow.inPlace == Tryz.prog.inPlace 4) = true := by kernel_rfl
theorem factB : (Rows.irHangsUptoRow.unfollowed == Tryz.prog.unfollowed 4) = true := by kernel_rfl
end Go.Proofs.YtofigbfckofbmaaGreatDoor.irHangsUp
