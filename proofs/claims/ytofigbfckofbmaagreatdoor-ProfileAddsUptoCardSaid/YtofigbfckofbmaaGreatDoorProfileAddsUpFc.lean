/-
  Closed facts of the second row of ProfileAdds. Conditions: none.
-/
import Derived.Test.YtofigbfckofbmaaGreatDoorCards
import Derived.ProofKit
import Derived.JoinedCond
namespace Go.Proofs.YtofigbfckofbmaaGreatDoor.profileAddsUp
theorem factC : (Rows.profileAddsUptoRow.recurses == Tryz.prog.recurses 6) = true := by kernel_rfl
theorem factD : (Rows.profileAddsUptoRow.named == Tryz.prog.varsNamed 6) = true := by kernel_rfl
end Go.Proofs.YtofigbfckofbmaaGreatDoor.profileAddsUp
