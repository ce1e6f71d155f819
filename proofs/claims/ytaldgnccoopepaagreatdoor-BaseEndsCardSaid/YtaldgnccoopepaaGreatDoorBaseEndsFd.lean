/-
  Closed facts of the row of BaseEnds. Conditions: none.
-/
import Derived.Test.YtaldgnccoopepaaGreatDoorCards
import Derived.ProofKit
import Derived.SevenTiedAt
namespace Go.Proofs.YtaldgnccoopepaaGreatDoor.baseEnds
theorem goesBy : false = Rows.baseEndsRow.goesBy Tryz.pinned.checked.prog := by kernel_rfl
theorem looks : true = Tryz.pinned.checked.prog.looks [] := by kernel_rfl
end Go.Proofs.YtaldgnccoopepaaGreatDoor.baseEnds
