/-
  Closed facts of the second row of ProfileAdds. Conditions: none.
-/
import Derived.Test.YtofigbfckofbmaaGreatDoorCards
import Derived.ProofKit
import Derived.SevenTiedAt
namespace Go.Proofs.YtofigbfckofbmaaGreatDoor.profileAddsUp
theorem goesBy : false = Rows.profileAddsUptoRow.goesBy Tryz.pinned.checked.prog := by kernel_rfl
theorem looks : true = Tryz.pinned.checked.prog.looks [] := by kernel_rfl
end Go.Proofs.YtofigbfckofbmaaGreatDoor.profileAddsUp
