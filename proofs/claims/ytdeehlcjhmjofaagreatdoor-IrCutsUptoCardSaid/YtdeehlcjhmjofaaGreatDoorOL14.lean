/-
  What is known in IrBack and IrCuts: chapter 14's examples. Conditions: none.
-/
import Derived.Test.YtdeehlcjhmjofaaGreatDoorIrCutsRun
import Derived.Test.YtdeehlcjhmjofaaGreatDoorAw14
import Derived.Test.YtdeehlcjhmjofaaGreatDoorCallsOf
namespace AmT
open Go Am Go.Proofs
set_option maxRecDepth 100000
set_option linter.unusedSimpArgs false
set_option linter.unusedVariables false

def OL14 : CallF := memoO [⟨25, [], .bool true⟩]
theorem OL14_ok {t : Nat → Option V} (ht : FlatT t) : CallOk (CC t) OL14 := memoO_ok (by simp [mAwake14 ht])
theorem OL14_off : OffL14 OL14 := { toRd := { gu := fun _ _ => rfl, gi := fun _ _ => rfl, up := fun _ _ => rfl, nu := fun _ _ => rfl, ex := fun _ _ => rfl, ea := fun _ _ => rfl, li := fun _ _ => rfl, l1 := fun _ _ => rfl, st := fun _ _ => rfl, rd := fun _ _ => rfl, r1 := fun _ _ => rfl, r2 := fun _ _ => rfl, r21 := fun _ _ => rfl, r3 := fun _ _ => rfl }, toWr := { u := fun _ _ => rfl, i := fun _ _ => rfl, pu := fun _ _ => rfl, co := fun _ _ => rfl, by_ := fun _ _ => rfl }, toFS := { si := fun _ _ => rfl, sa := fun _ _ => rfl }, toFK := { gr := fun _ _ => rfl, eq := fun _ _ => rfl, pick := fun _ _ => rfl }, aw := fun _ => rfl, l1 := fun _ _ => rfl, l2 := fun _ _ => rfl }
end AmT
