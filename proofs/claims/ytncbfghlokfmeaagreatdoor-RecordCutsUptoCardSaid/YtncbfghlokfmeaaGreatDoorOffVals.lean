/-
  Which calls that compare values no oracle knows. Conditions: none.
-/
import Derived.Test.YtncbfghlokfmeaaGreatDoorW
namespace AmT
open Go Am
structure OffVals (O : CallF) : Prop where
  ord : ∀ a h, O 159 a h = none
  cmp : ∀ a h, O 126 a h = none
  cmp2 : ∀ a h, O 87 a h = none
  sm : ∀ a h, O 39 a h = none
  sv : ∀ a h, O 13 a h = none
end AmT
