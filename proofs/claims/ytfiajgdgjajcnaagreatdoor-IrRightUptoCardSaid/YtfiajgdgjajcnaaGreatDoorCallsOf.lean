/-
  From a run to a call. Conditions: none.
-/
import Derived.Test.YtfiajgdgjajcnaaGreatDoorW
namespace AmT
open Go Am Go.Proofs
set_option maxRecDepth 100000
set_option linter.unusedVariables false
theorem calls_of {O : CallF} {t : Nat → Option V} (ht : FlatT t) (hO : CallOk (CC t) O) {f : Nat} {args : List V} (h : WPc tab.get O f args Heap.empty (fun v _ => v = .bool true)) : ∃ H', CallsTo (CC t) f args Heap.empty (.bool true) H' := by
  obtain ⟨n, v, H', e, hv⟩ := h.out
  subst hv
  exact ⟨H', run_ok mixed (tOk t) hO n f args Heap.empty _ H' e⟩
end AmT
