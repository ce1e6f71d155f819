/-
  Closed facts of the second row of BaseNone. Conditions: none.
-/
import Derived.Test.YtofigbfckofbmaaGreatDoorCards
import Derived.ProofKit
import Derived.SevenTiedAt
namespace Go.Proofs.YtofigbfckofbmaaGreatDoor.baseNoneUp
theorem byText : Rows.baseNoneUptoRow.wfByText (Rows.OpenSpec.upto Rows.baseNoneSpec) = true := by kernel_rfl
theorem mainIs : Tryz.pinned.checked.prog.mainIs = some (true, "f34767259cab4fac3d8d96b7bdccfde680b94065f80aa4de173f8cf9a9278902".toList) := by kernel_rfl
end Go.Proofs.YtofigbfckofbmaaGreatDoor.baseNoneUp
