/-
  Closed facts of the row of BaseEnds. Conditions: none.
-/
import Derived.Test.YtaldgnccoopepaaGreatDoorCards
import Derived.ProofKit
import Derived.JoinedCond
namespace Go.Proofs.YtaldgnccoopepaaGreatDoor.baseEnds
theorem named : Tryz.prog.funcNamed "drover/droverlaw12.BaseEnds" = some 4 := by kernel_rfl
theorem factA : (Rows.baseEndsRow.inPlace == Tryz.prog.inPlace 4) = true := by kernel_rfl
theorem factB : (Rows.baseEndsRow.unfollowed == Tryz.prog.unfollowed 4) = true := by kernel_rfl
end Go.Proofs.YtaldgnccoopepaaGreatDoor.baseEnds
