/-
  IrCuts' run, over any table of tokens. Conditions: the arguments are plain data, of bulk at most 1048576.
-/
import Derived.Test.YtdeehlcjhmjofaaGreatDoorTyFast
import Derived.Test.YtdeehlcjhmjofaaGreatDoorOL14
namespace AmT
open Go Am Go.Proofs
set_option maxRecDepth 100000
set_option linter.unusedSimpArgs false
set_option linter.unusedVariables false

theorem irCuts_run {t : Nat → Option V} (ht : FlatT t) (a0 a1 : List V) (a2 : Int) (w0 : ∃ n, TV n 68 a0) (w1 : ∃ n, TV n 68 a1) (w2 : (Lit.int .i64 a2).wf = true) (hb : bulkL a0 + bulkL a1 ≤ 1048576) :
    ∃ H', CallsTo (CC t) 9 [.agg a0, .agg a1, .int .i64 a2] Heap.empty (.bool true) H' := by
  obtain ⟨n, hn⟩ := w0
  obtain ⟨m, hm⟩ := w1
  obtain ⟨f, k1, k2, k3⟩ := ty_fast hn (fun _ => False) Heap.empty
  obtain ⟨g, k4, k5, k6⟩ := ty_fast hm (fun _ => False) Heap.empty
  exact calls_of ht (OL14_ok ht) (irCuts_ok OL14_off k1 k2 (by omega) k4 k5 (by omega))
end AmT
