/-
  Closed facts of the second row of IrNeeds. Conditions: none.
-/
import Derived.Test.YtofigbfckofbmaaGreatDoorCards
import Derived.ProofKit
import Derived.JoinedCond
namespace Go.Proofs.YtofigbfckofbmaaGreatDoor.irNeedsUp
theorem named : Tryz.prog.funcNamed "drover/droverlaw14.IrNeeds" = some 5 := by kernel_rfl
theorem factA : (Rows.irNeedsUptoRow.inPlace == Tryz.prog.inPlace 5) = true := by kernel_rfl
theorem factB : (Rows.irNeedsUptoRow.unfollowed == Tryz.prog.unfollowed 5) = true := by kernel_rfl
end Go.Proofs.YtofigbfckofbmaaGreatDoor.irNeedsUp
