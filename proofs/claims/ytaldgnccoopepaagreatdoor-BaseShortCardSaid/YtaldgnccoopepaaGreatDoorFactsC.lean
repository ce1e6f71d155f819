/-
  Closed facts of the row of BaseShort. Conditions: none.
-/
import Derived.Test.YtaldgnccoopepaaGreatDoorCards
import Derived.ProofKit
import Derived.JoinedCond
namespace Go.Proofs.YtaldgnccoopepaaGreatDoor.baseShort
theorem factC : (Rows.baseShortRow.recurses == Tryz.prog.recurses 3) = true := by kernel_rfl
theorem factD : (Rows.baseShortRow.named == Tryz.prog.varsNamed 3) = true := by kernel_rfl
end Go.Proofs.YtaldgnccoopepaaGreatDoor.baseShort
