/-
  Closed facts of the row of BaseReckons. Conditions: none.
-/
import Derived.Test.YtflchelidalhnaaGreatDoorCards
import Derived.ProofKit
import Derived.SevenTiedAt
namespace Go.Proofs.YtflchelidalhnaaGreatDoor.baseReckons
theorem byText : Rows.baseReckonsRow.wfByText (OpenSpec.ofChange Rows.baseReckonsSpec) = true := by kernel_rfl
theorem mainIs : Tryz.pinned.checked.prog.mainIs = some (true, "39d81e9c52eef60046fb82cbf3cd0208157d2f0139ff92f92b7e15b2a4fdc318".toList) := by kernel_rfl
end Go.Proofs.YtflchelidalhnaaGreatDoor.baseReckons
