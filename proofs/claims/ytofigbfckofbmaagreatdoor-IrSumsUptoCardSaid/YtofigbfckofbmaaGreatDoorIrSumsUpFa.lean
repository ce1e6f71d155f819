/-
  Closed facts of the second row of IrSums. Conditions: none.
-/
import Derived.Test.YtofigbfckofbmaaGreatDoorCards
import Derived.ProofKit
import Derived.JoinedCond
namespace Go.Proofs.YtofigbfckofbmaaGreatDoor.irSumsUp
theorem named : Tryz.prog.funcNamed "drover/droverlaw14.IrSums" = some 3 := by kernel_rfl
theorem factA : (Rows.irSumsUptoRow.inPlace == Tryz.prog.inPlace 3) = true := by kernel_rfl
theorem factB : (Rows.irSumsUptoRow.unfollowed == Tryz.prog.unfollowed 3) = true := by kernel_rfl
end Go.Proofs.YtofigbfckofbmaaGreatDoor.irSumsUp
