/-
  Modules as the rows read them. Conditions: none.
-/
import Derived.Test.YtncbfghlokfmeaaGreatDoorAmC
import Derived.Test.YtncbfghlokfmeaaGreatDoorProg
import Derived.KernelRfl
namespace AmT
open Go Am Go.Proofs
set_option maxRecDepth 100000
set_option linter.unusedSimpArgs false
set_option linter.unusedVariables false

abbrev TV := TyV Tryz.prog
variable {n : Nat} {cs : List V}

/-- A slice by value, over any heap. -/
theorem sl_rs {v : V} {es : List (List V)} {esz : Nat} (h : v = .nils ∧ es = [] ∨ v = .vec (es.map .agg)) (hl : ∀ c ∈ es, c.length = esz ∧ allOne c = true) (H : Heap) : RS H esz v es := by
  rcases h with ⟨rfl, rfl⟩ | rfl
  · exact RS.nils H esz
  · exact RS.vec H hl

theorem sl_len {es : List (List V)} {esz : Nat} (hl : ∀ c ∈ es, c.length = esz ∧ allOne c = true) (h0 : 1 ≤ esz) {B : Nat} (hb : bulkL (es.map .agg) ≤ B) : es.length ≤ B :=
  Nat.le_trans (bulk_count fun c hc => ⟨(hl c hc).2, by rw [(hl c hc).1]; exact h0⟩) hb

theorem ty_val (h : TV n 32 cs) : cs.length = 4 ∧ allOne cs = true := by
  refine ⟨?_, ty_one _ _ _ h⟩
  obtain ⟨m, rfl, a, b, rfl, h1, c, d, rfl, h2, e, f, rfl, h3, e2, f2, rfl, h4, hf⟩ := ty_struct (ts := [30, 2, 9, 23]) Tryz.underlying32 rfl h
  obtain ⟨o, rfl, _⟩ := ty_int Tryz.underlying30 h1
  obtain ⟨x, rfl, _⟩ := ty_int Tryz.underlying2 h2
  obtain ⟨y, rfl⟩ := ty_str Tryz.underlying9 h3
  obtain ⟨v, es, k, rfl, _⟩ := ty_slice Tryz.underlying23 h4
  simp only [TyVs] at hf; subst hf
  rfl

end AmT
