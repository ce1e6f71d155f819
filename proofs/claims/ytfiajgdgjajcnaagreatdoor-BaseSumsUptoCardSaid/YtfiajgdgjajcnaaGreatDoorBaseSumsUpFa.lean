/-
  Closed facts of the second row of BaseSums. Conditions: none.
-/
import Derived.Test.YtfiajgdgjajcnaaGreatDoorCards
import Derived.ProofKit
import Derived.JoinedCond
namespace Go.Proofs.YtfiajgdgjajcnaaGreatDoor.baseSumsUp
theorem named : Tryz.prog.funcNamed "drover/droverlaw12.BaseSums" = some 3 := by kernel_rfl
theorem factA : (Rows.baseSumsUptoRow.inPlace == Tryz.prog.inPlace 3) = true := by kernel_rfl
theorem factB : (Rows.baseSumsUptoRow.unfollowed == Tryz.prog.unfollowed 3) = true := by kernel_rfl
end Go.Proofs.YtfiajgdgjajcnaaGreatDoor.baseSumsUp
