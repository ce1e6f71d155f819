/-
  Closed facts of the row of BaseOrder. Conditions: none.
-/
import Derived.Test.YtflchelidalhnaaGreatDoorCards
import Derived.ProofKit
import Derived.SevenTiedAt
namespace Go.Proofs.YtflchelidalhnaaGreatDoor.baseOrder
theorem byText : Rows.baseOrderRow.wfByText (OpenSpec.ofChange Rows.baseOrderSpec) = true := by kernel_rfl
theorem mainIs : Tryz.pinned.checked.prog.mainIs = some (true, "39d81e9c52eef60046fb82cbf3cd0208157d2f0139ff92f92b7e15b2a4fdc318".toList) := by kernel_rfl
end Go.Proofs.YtflchelidalhnaaGreatDoor.baseOrder
