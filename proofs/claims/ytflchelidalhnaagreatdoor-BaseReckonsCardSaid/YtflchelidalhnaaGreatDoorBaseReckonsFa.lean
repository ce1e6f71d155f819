/-
  Closed facts of the row of BaseReckons. Conditions: none.
-/
import Derived.Test.YtflchelidalhnaaGreatDoorCards
import Derived.ProofKit
import Derived.JoinedCond
namespace Go.Proofs.YtflchelidalhnaaGreatDoor.baseReckons
theorem named : Tryz.prog.funcNamed "drover/droverlaw12.BaseReckons" = some 4 := by kernel_rfl
theorem factA : (Rows.baseReckonsRow.inPlace == Tryz.prog.inPlace 4) = true := by kernel_rfl
theorem factB : (Rows.baseReckonsRow.unfollowed == Tryz.prog.unfollowed 4) = true := by kernel_rfl
end Go.Proofs.YtflchelidalhnaaGreatDoor.baseReckons
