/-
  Closed facts of the second row of ProfileAdds. Conditions: none.
-/
import Derived.Test.YtofigbfckofbmaaGreatDoorCards
import Derived.ProofKit
import Derived.JoinedCond
namespace Go.Proofs.YtofigbfckofbmaaGreatDoor.profileAddsUp
theorem named : Tryz.prog.funcNamed "drover/droverlaw13.ProfileAdds" = some 6 := by kernel_rfl
theorem factA : (Rows.profileAddsUptoRow.inPlace == Tryz.prog.inPlace 6) = true := by kernel_rfl
theorem factB : (Rows.profileAddsUptoRow.unfollowed == Tryz.prog.unfollowed 6) = true := by kernel_rfl
end Go.Proofs.YtofigbfckofbmaaGreatDoor.profileAddsUp
