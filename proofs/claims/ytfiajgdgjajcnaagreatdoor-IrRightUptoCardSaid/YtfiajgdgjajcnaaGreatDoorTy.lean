/-
  Modules as the rows read them. Conditions: none.
-/
import Derived.Test.YtfiajgdgjajcnaaGreatDoorAmC
import Derived.Test.YtfiajgdgjajcnaaGreatDoorProg
import Derived.KernelRfl
namespace AmT
open Go Am Go.Proofs
set_option maxRecDepth 100000
set_option linter.unusedSimpArgs false
set_option linter.unusedVariables false

abbrev TV := TyV Tryz.prog
variable {n : Nat} {cs : List V}

/-- A slice by value, over any heap. -/
theorem sl_rs {v : V} {es : List (List V)} {esz : Nat} (h : v = .nils ∧ es = [] ∨ v = .vec (es.map .agg)) (hl : ∀ c ∈ es, c.length = esz ∧ allOne c = true) (H : Heap) : RS H esz v es := by
  rcases h with ⟨rfl, rfl⟩ | rfl
  · exact RS.nils H esz
  · exact RS.vec H hl

theorem sl_len {es : List (List V)} {esz : Nat} (hl : ∀ c ∈ es, c.length = esz ∧ allOne c = true) (h0 : 1 ≤ esz) {B : Nat} (hb : bulkL (es.map .agg) ≤ B) : es.length ≤ B :=
  Nat.le_trans (bulk_count fun c hc => ⟨(hl c hc).2, by rw [(hl c hc).1]; exact h0⟩) hb

theorem ty_ins (h : TV n 214 cs) : InsC cs := by
  obtain ⟨m, rfl, a, b, rfl, h1, c, d, rfl, h2, e, f, rfl, h3, hf⟩ := ty_struct (ts := [212, 3, 3]) Tryz.underlying214 rfl h
  obtain ⟨o, rfl, _⟩ := ty_int Tryz.underlying212 h1
  obtain ⟨x, rfl, _⟩ := ty_int Tryz.underlying3 h2
  obtain ⟨y, rfl, _⟩ := ty_int Tryz.underlying3 h3
  simp only [TyVs] at hf; subst hf
  exact ⟨o, x, y, rfl⟩

theorem ty_on (h : TV n 144 cs) : OnC cs := by
  obtain ⟨m, rfl, a, b, rfl, h1, c, d, rfl, h2, e, f, rfl, h3, hf⟩ := ty_struct (ts := [9, 3, 3]) Tryz.underlying144 rfl h
  obtain ⟨o, rfl⟩ := ty_str Tryz.underlying9 h1
  obtain ⟨x, rfl, _⟩ := ty_int Tryz.underlying3 h2
  obtain ⟨y, rfl, _⟩ := ty_int Tryz.underlying3 h3
  simp only [TyVs] at hf; subst hf
  exact ⟨o, x, y, rfl⟩

theorem ty_val (h : TV n 32 cs) : cs.length = 4 ∧ allOne cs = true := by
  refine ⟨?_, ty_one _ _ _ h⟩
  obtain ⟨m, rfl, a, b, rfl, h1, c, d, rfl, h2, e, f, rfl, h3, e2, f2, rfl, h4, hf⟩ := ty_struct (ts := [30, 2, 9, 23]) Tryz.underlying32 rfl h
  obtain ⟨o, rfl, _⟩ := ty_int Tryz.underlying30 h1
  obtain ⟨x, rfl, _⟩ := ty_int Tryz.underlying2 h2
  obtain ⟨y, rfl⟩ := ty_str Tryz.underlying9 h3
  obtain ⟨v, es, k, rfl, _⟩ := ty_slice Tryz.underlying23 h4
  simp only [TyVs] at hf; subst hf
  rfl

theorem ty_fn (h : TV n 90 cs) (hb : bulkL cs ≤ 1048576) (H : Heap) : FnC H cs := by
  obtain ⟨m, rfl, a, b, rfl, h1, c, d, rfl, h2, e, f, rfl, h3, e2, f2, rfl, h4, hf⟩ := ty_struct (ts := [9, 3, 3, 88]) Tryz.underlying90 rfl h
  obtain ⟨o, rfl⟩ := ty_str Tryz.underlying9 h1
  obtain ⟨x, rfl, _⟩ := ty_int Tryz.underlying3 h2
  obtain ⟨y, rfl, _⟩ := ty_int Tryz.underlying3 h3
  obtain ⟨v, es, k, rfl, _, rfl, he, hbe, hv⟩ := ty_slice Tryz.underlying88 h4
  simp only [TyVs] at hf; subst hf
  have hl : ∀ c ∈ es, c.length = 3 ∧ allOne c = true := fun c hc => (ty_ins (he c hc)).one
  refine ⟨o, x, y, v, es, rfl, sl_rs hv hl H, fun i hi => ty_ins (he i hi), ?_⟩
  have := sl_len hl (by decide) hbe
  simp only [bulkL, bulkL_append] at hb this
  omega

theorem ty_part (h : TV n 140 cs) (hb : bulkL cs ≤ 1048576) (H : Heap) : PartC H cs := by
  obtain ⟨m, rfl, a, b, rfl, h1, c, d, rfl, h2, e2, f2, rfl, h4, hf⟩ := ty_struct (ts := [9, 3, 138]) Tryz.underlying140 rfl h
  obtain ⟨o, rfl⟩ := ty_str Tryz.underlying9 h1
  obtain ⟨x, rfl, _⟩ := ty_int Tryz.underlying3 h2
  obtain ⟨v, es, k, rfl, _, rfl, he, hbe, hv⟩ := ty_slice Tryz.underlying138 h4
  simp only [TyVs] at hf; subst hf
  have hl : ∀ c ∈ es, c.length = 3 ∧ allOne c = true := fun c hc => by
    obtain ⟨t, p, f, rfl⟩ := ty_on (he c hc)
    exact ⟨rfl, rfl⟩
  refine ⟨o, x, v, es, rfl, sl_rs hv hl H, fun i hi => ty_on (he i hi), ?_⟩
  have := sl_len hl (by decide) hbe
  simp only [bulkL, bulkL_append] at hb this
  omega

theorem ty_mod (h : TV n 28 cs) (hb : bulkL cs ≤ 1048576) (H : Heap) : ModC H cs := by
  obtain ⟨m, rfl, a, b, rfl, h1, c, d, rfl, h2, e, f, rfl, h3, e2, f2, rfl, h4, hf⟩ := ty_struct (ts := [23, 24, 25, 26]) Tryz.underlying28 rfl h
  obtain ⟨v1, es1, k1, rfl, _, rfl, he1, hbe1, hv1⟩ := ty_slice Tryz.underlying23 h1
  obtain ⟨v2, es2, k2, rfl, _, hk2, he2, hbe2, hv2⟩ := ty_slice Tryz.underlying24 h2
  obtain ⟨v3, es3, k3, rfl, _, hk3, he3, hbe3, hv3⟩ := ty_slice Tryz.underlying25 h3
  obtain ⟨v4, es4, k4, rfl, _, hk4, he4, hbe4, hv4⟩ := ty_slice Tryz.underlying26 h4
  simp only [TyVs] at hf; subst hf
  simp only [bulkL, bulkL_append] at hb hbe1 hbe2 hbe3 hbe4
  have f3 : ∀ c ∈ es3, FnC H c := fun c hc => ty_fn (he3 c hc) (by have := bulk_mem hc; omega) H
  have f4 : ∀ c ∈ es4, PartC H c := fun c hc => ty_part (he4 c hc) (by have := bulk_mem hc; omega) H
  have l3 : ∀ c ∈ es3, c.length = 4 ∧ allOne c = true := fun c hc => (f3 c hc).one
  have l4 : ∀ c ∈ es4, c.length = 3 ∧ allOne c = true := fun c hc => (f4 c hc).one
  refine ⟨v1, v2, v3, v4, es1, es2, es3, es4, rfl, sl_rs hv1 (fun c hc => ty_val (he1 c hc)) H, sl_rs hv2 (fun c hc => ?_) H, sl_rs hv3 l3 H, sl_rs hv4 l4 H, f3, f4, ?_, ?_⟩
  · obtain ⟨s, rfl⟩ := ty_str Tryz.underlying9 (he2 c hc)
    exact ⟨rfl, rfl⟩
  · have := sl_len l3 (by decide) (Nat.le_refl _); omega
  · have := sl_len l4 (by decide) (Nat.le_refl _); omega
end AmT
