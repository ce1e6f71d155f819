/-
  Closed facts of the row of BaseDeep. Conditions: none.
-/
import Derived.Test.YtflchelidalhnaaGreatDoorCards
import Derived.ProofKit
import Derived.JoinedCond
namespace Go.Proofs.YtflchelidalhnaaGreatDoor.baseDeep
theorem named : Tryz.prog.funcNamed "drover/droverlaw12.BaseDeep" = some 5 := by kernel_rfl
theorem factA : (Rows.baseDeepRow.inPlace == Tryz.prog.inPlace 5) = true := by kernel_rfl
theorem factB : (Rows.baseDeepRow.unfollowed == Tryz.prog.unfollowed 5) = true := by kernel_rfl
end Go.Proofs.YtflchelidalhnaaGreatDoor.baseDeep
