/-
  Closed facts of the row of BaseShort. Conditions: none.
-/
import Derived.Test.YtaldgnccoopepaaGreatDoorCards
import Derived.ProofKit
import Derived.JoinedCond
namespace Go.Proofs.YtaldgnccoopepaaGreatDoor.baseShort
theorem named : Tryz.prog.funcNamed "drover/droverlaw12.BaseShort" = some 3 := by kernel_rfl
theorem factA : (Rows.baseShortRow.inPlace == Tryz.prog.inPlace 3) = true := by kernel_rfl
theorem factB : (Rows.baseShortRow.unfollowed == Tryz.prog.unfollowed 3) = true := by kernel_rfl
end Go.Proofs.YtaldgnccoopepaaGreatDoor.baseShort
