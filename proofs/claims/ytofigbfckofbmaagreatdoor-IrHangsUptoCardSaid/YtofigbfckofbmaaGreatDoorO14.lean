/-
  What is known in the laws of chapter 14; from a run to a call. Conditions: none.
-/
import Derived.Test.YtofigbfckofbmaaGreatDoorPick
import Derived.Test.YtofigbfckofbmaaGreatDoorAw14
import Derived.Test.YtofigbfckofbmaaGreatDoorTy
namespace AmT
open Go Am Go.Proofs
set_option maxRecDepth 100000
set_option linter.unusedSimpArgs false
set_option linter.unusedVariables false

def O14 : CallF := memoO [⟨10, [], .bool true⟩]
theorem O14_ok {t : Nat → Option V} (ht : FlatT t) : CallOk (CC t) O14 := memoO_ok (by simp [mAwake14 ht])
theorem O14_off : Off14 O14 := { u := fun _ _ => rfl, s1 := fun _ _ => rfl, c := fun _ _ => rfl, s := fun _ _ => rfl, h1 := fun _ _ => rfl, ix := fun _ _ => rfl, cf := fun _ _ => rfl, hd := fun _ _ => rfl, aw := fun _ => rfl, gr := fun _ _ => rfl, pick := fun _ _ => rfl, l1 := fun _ _ => rfl, l2 := fun _ _ => rfl, l3 := fun _ _ => rfl }

theorem calls_of {O : CallF} {t : Nat → Option V} (ht : FlatT t) (hO : CallOk (CC t) O) {f : Nat} {args : List V} (h : WPc tab.get O f args Heap.empty (fun v _ => v = .bool true)) : ∃ H', CallsTo (CC t) f args Heap.empty (.bool true) H' := by
  obtain ⟨n, v, H', e, hv⟩ := h.out
  subst hv
  exact ⟨H', run_ok mixed (tOk t) hO n f args Heap.empty _ H' e⟩
end AmT
