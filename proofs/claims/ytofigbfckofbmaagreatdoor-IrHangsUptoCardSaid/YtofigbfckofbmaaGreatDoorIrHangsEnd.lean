/-
  IrHangs' run, over any table of tokens. Conditions: the arguments are plain data, of bulk at most 1048576.
-/
import Derived.Test.YtofigbfckofbmaaGreatDoorIrHangsRun
import Derived.Test.YtofigbfckofbmaaGreatDoorO14
namespace AmT
open Go Am Go.Proofs
set_option maxRecDepth 100000
set_option linter.unusedSimpArgs false
set_option linter.unusedVariables false

theorem irHangs_run {t : Nat → Option V} (ht : FlatT t) (a0 a1 : List V) (a2 : Int) (w0 : ∃ n, TV n 27 a0) (w1 : ∃ n, TV n 27 a1) (w2 : (Lit.int .i64 a2).wf = true) (hb : bulkL a0 + bulkL a1 ≤ 1048576) :
    ∃ H', CallsTo (CC t) 4 [.agg a0, .agg a1, .int .i64 a2] Heap.empty (.bool true) H' := by
  obtain ⟨n0, h0⟩ := w0
  obtain ⟨n1, h1⟩ := w1
  exact calls_of ht (O14_ok ht) (irHangs_ok O14_off (ty_mod h0 (by omega) _) (ty_mod h1 (by omega) _))
end AmT
