/-
  Closed facts of the second row of BaseSums. Conditions: none.
-/
import Derived.Test.YtfiajgdgjajcnaaGreatDoorCards
import Derived.ProofKit
import Derived.JoinedCond
namespace Go.Proofs.YtfiajgdgjajcnaaGreatDoor.baseSumsUp
theorem factC : (Rows.baseSumsUptoRow.recurses == Tryz.prog.recurses 3) = true := by kernel_rfl
theorem factD : (Rows.baseSumsUptoRow.named == Tryz.prog.varsNamed 3) = true := by kernel_rfl
end Go.Proofs.YtfiajgdgjajcnaaGreatDoor.baseSumsUp
