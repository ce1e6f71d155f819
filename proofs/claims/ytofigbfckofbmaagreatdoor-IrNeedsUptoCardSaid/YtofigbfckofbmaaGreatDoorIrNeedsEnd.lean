/-
  IrNeeds' run, over any table of tokens. Conditions: the arguments are plain data, of bulk at most 1048576.
-/
import Derived.Test.YtofigbfckofbmaaGreatDoorIrNeedsRun
import Derived.Test.YtofigbfckofbmaaGreatDoorIrSumsEnd
namespace AmT
open Go Am Go.Proofs
set_option maxRecDepth 100000
set_option linter.unusedSimpArgs false
set_option linter.unusedVariables false

theorem irNeeds_run {t : Nat → Option V} (ht : FlatT t) (a0 : List V) (c1 : V) (a2 : List V) (w0 : ∃ n, TV n 27 a0) (w1 : ∃ n, TV n 46 [c1]) (w2 : ∃ n, TV n 47 a2) (hb : bulkL a0 + bulkL [c1] + bulkL a2 ≤ 1048576) :
    ∃ H', CallsTo (CC t) 5 [.agg a0, c1, .agg a2] Heap.empty (.bool true) H' := by
  obtain ⟨n0, h0⟩ := w0
  obtain ⟨n1, h1⟩ := w1
  obtain ⟨n2, h2⟩ := w2
  obtain ⟨m, rfl, a, b, rfl, k1, c, d, rfl, k2, hf⟩ := ty_arr Tryz.underlying47 h2
  obtain ⟨x0, rfl, _⟩ := ty_int Tryz.underlying3 k1
  obtain ⟨x1, rfl, _⟩ := ty_int Tryz.underlying3 k2
  simp only [TyVs] at hf; subst hf
  obtain ⟨v, es, m1, hv, _, rfl, he, hbe, hs⟩ := ty_slice Tryz.underlying46 h1
  simp only [List.cons.injEq, and_true] at hv; subst hv
  have hns : ∀ c ∈ es, ∃ n : Int, c = [.int .i64 n] := fun c hc => by
    obtain ⟨i, rfl, _⟩ := ty_int Tryz.underlying3 (he c hc)
    exact ⟨i, rfl⟩
  have hl : ∀ c ∈ es, c.length = 1 ∧ allOne c = true := fun c hc => by
    obtain ⟨i, rfl⟩ := hns c hc
    exact ⟨rfl, rfl⟩
  exact calls_of ht (O14_ok ht) (irNeeds_ok O14_off (ty_mod h0 (by omega) _) (sl_rs hs hl _) hns (by have := sl_len hl (by decide) hbe; omega))
end AmT
