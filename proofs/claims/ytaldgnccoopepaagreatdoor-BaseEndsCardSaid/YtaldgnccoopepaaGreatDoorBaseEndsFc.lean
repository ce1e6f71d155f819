/-
  Closed facts of the row of BaseEnds. Conditions: none.
-/
import Derived.Test.YtaldgnccoopepaaGreatDoorCards
import Derived.ProofKit
import Derived.JoinedCond
namespace Go.Proofs.YtaldgnccoopepaaGreatDoor.baseEnds
theorem factC : (Rows.baseEndsRow.recurses == Tryz.prog.recurses 4) = true := by kernel_rfl
theorem factD : (Rows.baseEndsRow.named == Tryz.prog.varsNamed 4) = true := by kernel_rfl
end Go.Proofs.YtaldgnccoopepaaGreatDoor.baseEnds
