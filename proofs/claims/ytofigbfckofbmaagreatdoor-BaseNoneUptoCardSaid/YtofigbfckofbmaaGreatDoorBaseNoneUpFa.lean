/-
  Closed facts of the second row of BaseNone. Conditions: none.
-/
import Derived.Test.YtofigbfckofbmaaGreatDoorCards
import Derived.ProofKit
import Derived.JoinedCond
namespace Go.Proofs.YtofigbfckofbmaaGreatDoor.baseNoneUp
theorem named : Tryz.prog.funcNamed "drover/droverlaw12.BaseNone" = some 7 := by kernel_rfl
theorem factA : (Rows.baseNoneUptoRow.inPlace == Tryz.prog.inPlace 7) = true := by kernel_rfl
theorem factB : (Rows.baseNoneUptoRow.unfollowed == Tryz.prog.unfollowed 7) = true := by kernel_rfl
end Go.Proofs.YtofigbfckofbmaaGreatDoor.baseNoneUp
