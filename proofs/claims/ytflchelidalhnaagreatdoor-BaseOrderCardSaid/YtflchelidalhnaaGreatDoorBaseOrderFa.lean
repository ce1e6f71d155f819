/-
  Closed facts of the row of BaseOrder. Conditions: none.
-/
import Derived.Test.YtflchelidalhnaaGreatDoorCards
import Derived.ProofKit
import Derived.JoinedCond
namespace Go.Proofs.YtflchelidalhnaaGreatDoor.baseOrder
theorem named : Tryz.prog.funcNamed "drover/droverlaw12.BaseOrder" = some 6 := by kernel_rfl
theorem factA : (Rows.baseOrderRow.inPlace == Tryz.prog.inPlace 6) = true := by kernel_rfl
theorem factB : (Rows.baseOrderRow.unfollowed == Tryz.prog.unfollowed 6) = true := by kernel_rfl
end Go.Proofs.YtflchelidalhnaaGreatDoor.baseOrder
