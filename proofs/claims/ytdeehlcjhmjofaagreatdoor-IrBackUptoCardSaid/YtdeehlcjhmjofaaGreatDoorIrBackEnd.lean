/-
  IrBack's run, over any table of tokens. Conditions: the arguments are plain data, of bulk at most 1048576.
-/
import Derived.Test.YtdeehlcjhmjofaaGreatDoorTyFast
import Derived.Test.YtdeehlcjhmjofaaGreatDoorOL14
namespace AmT
open Go Am Go.Proofs
set_option maxRecDepth 100000
set_option linter.unusedSimpArgs false
set_option linter.unusedVariables false

theorem irBack_run {t : Nat → Option V} (ht : FlatT t) (a0 : List V) (c1 : V) (w0 : ∃ n, TV n 68 a0) (w1 : ∃ n, TV n 69 [c1]) (hb : bulkL a0 + bulkL [c1] ≤ 1048576) :
    ∃ H', CallsTo (CC t) 8 [.agg a0, c1] Heap.empty (.bool true) H' := by
  obtain ⟨n, hn⟩ := w0
  obtain ⟨m, hm⟩ := w1
  obtain ⟨f, k1, k2, k3⟩ := ty_fast hn (fun _ => False) Heap.empty
  obtain ⟨v, bs, e, k4⟩ := ty_bytes hm (by omega) Heap.empty
  simp only [List.cons.injEq, and_true] at e
  subst e
  exact calls_of ht (OL14_ok ht) (irBack_ok OL14_off k1 k2 (by omega) k4)
end AmT
