/-
  IrSums' run, over any table of tokens. Conditions: the arguments are plain data, of bulk at most 1048576.
-/
import Derived.Test.YtofigbfckofbmaaGreatDoorIrSumsRun
import Derived.Test.YtofigbfckofbmaaGreatDoorAw14
import Derived.Test.YtofigbfckofbmaaGreatDoorTy
namespace AmT
open Go Am Go.Proofs
set_option maxRecDepth 100000
set_option linter.unusedSimpArgs false
set_option linter.unusedVariables false

def O14 : CallF := memoO [⟨10, [], .bool true⟩]
theorem O14_ok {t : Nat → Option V} (ht : FlatT t) : CallOk (CC t) O14 := memoO_ok (by simp [mAwake14 ht])
theorem O14_off : Off14 O14 := { u := fun _ _ => rfl, s1 := fun _ _ => rfl, c := fun _ _ => rfl, s := fun _ _ => rfl, h1 := fun _ _ => rfl, ix := fun _ _ => rfl, cf := fun _ _ => rfl, hd := fun _ _ => rfl, aw := fun _ => rfl, gr := fun _ _ => rfl, pick := fun _ _ => rfl, l1 := fun _ _ => rfl, l2 := fun _ _ => rfl, l3 := fun _ _ => rfl }

theorem calls_of {O : CallF} {t : Nat → Option V} (ht : FlatT t) (hO : CallOk (CC t) O) {f : Nat} {args : List V} (h : WPc tab.get O f args Heap.empty (fun v _ => v = .bool true)) : ∃ H', CallsTo (CC t) f args Heap.empty (.bool true) H' := by
  obtain ⟨n, v, H', e, hv⟩ := h.out
  subst hv
  exact ⟨H', run_ok mixed (tOk t) hO n f args Heap.empty _ H' e⟩

theorem irSums_run {t : Nat → Option V} (ht : FlatT t) (a0 : List V) (a1 : Int) (w0 : ∃ n, TV n 27 a0) (w1 : (Lit.int .i64 a1).wf = true) (hb : bulkL a0 ≤ 1048576) :
    ∃ H', CallsTo (CC t) 3 [.agg a0, .int .i64 a1] Heap.empty (.bool true) H' := by
  obtain ⟨n, hn⟩ := w0
  exact calls_of ht (O14_ok ht) (irSums_ok O14_off (ty_mod hn hb _) w1)
end AmT
