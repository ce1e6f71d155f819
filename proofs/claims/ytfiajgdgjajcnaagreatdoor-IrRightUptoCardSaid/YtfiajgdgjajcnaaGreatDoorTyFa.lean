/-
  Speculative code and bytes as the rows read them. Conditions: none.
-/
import Derived.Test.YtfiajgdgjajcnaaGreatDoorTy
namespace AmT
open Go Am Go.Proofs
set_option maxRecDepth 100000
set_option linter.unusedSimpArgs false
set_option linter.unusedVariables false
variable {n : Nat} {cs : List V}

/-- A slice by value, of whatever is in no object. -/
theorem sl_rsz {Z : Nat → Prop} {v : V} {es : List (List V)} {esz : Nat} (h : v = .nils ∧ es = [] ∨ v = .vec (es.map .agg)) (hl : ∀ c ∈ es, c.length = esz ∧ allOne c = true) (H : Heap) : RSz Z H esz v es := by
  refine ⟨sl_rs h hl H, ?_⟩
  rcases h with ⟨rfl, rfl⟩ | rfl <;> simp [slIds]
theorem sl_bulk {v : V} {es : List (List V)} (h : v = .nils ∧ es = [] ∨ v = .vec (es.map .agg)) : bulkL (es.map .agg) + 1 ≤ bulkV v := by
  rcases h with ⟨rfl, rfl⟩ | rfl
  · simp [bulkL, bulkV]
  · simp [bulkV]

theorem ty_ints (h : TV n 22 cs) (Z : Nat → Prop) (H : Heap) : ∃ (v : V) (l : List Int), cs = [v] ∧ RSz Z H 1 v (l.map intC) ∧ l.length + 1 ≤ bulkV v := by
  obtain ⟨v, es, m, rfl, _, rfl, he, hbe, hs⟩ := ty_slice Tryz.underlying22 h
  have h1 : ∀ c ∈ es, ∃ a, c = intC a := fun c hc => by
    obtain ⟨i, rfl, _⟩ := ty_int Tryz.underlying3 (he c hc)
    exact ⟨i, rfl⟩
  obtain ⟨l, hl⟩ := all2_ex h1
  obtain rfl := all2_map hl
  refine ⟨v, l, rfl, sl_rsz hs (fun c hc => ?_) H, ?_⟩
  · obtain ⟨a, rfl⟩ := h1 c hc
    exact ⟨rfl, rfl⟩
  · have h2 := sl_bulk hs
    have h3 : (l.map intC).length ≤ bulkL ((l.map intC).map .agg) := bulk_count fun c hc => by
      obtain ⟨a, rfl⟩ := h1 c hc
      exact ⟨rfl, Nat.le_refl _⟩
    rw [List.length_map] at h3
    omega

theorem ty_spec (h : TV n 83 cs) : ∃ s : SpecA, cs = specC s ∧ 0 ≤ s.1 ∧ s.1 ≤ 255 := by
  obtain ⟨m, rfl, a, b, rfl, h1, c, d, rfl, h2, e, f, rfl, h3, a4, b4, rfl, h4, a5, b5, rfl, h5, a6, b6, rfl, h6, a7, b7, rfl, h7, hf⟩ := ty_struct (ts := [81, 3, 3, 3, 3, 3, 3]) Tryz.underlying83 rfl h
  obtain ⟨x1, rfl, w⟩ := ty_int Tryz.underlying81 h1
  obtain ⟨x2, rfl, _⟩ := ty_int Tryz.underlying3 h2
  obtain ⟨x3, rfl, _⟩ := ty_int Tryz.underlying3 h3
  obtain ⟨x4, rfl, _⟩ := ty_int Tryz.underlying3 h4
  obtain ⟨x5, rfl, _⟩ := ty_int Tryz.underlying3 h5
  obtain ⟨x6, rfl, _⟩ := ty_int Tryz.underlying3 h6
  obtain ⟨x7, rfl, _⟩ := ty_int Tryz.underlying3 h7
  simp only [TyVs] at hf; subst hf
  simp only [Lit.wf, Bool.and_eq_true, decide_eq_true_eq] at w
  exact ⟨(x1, x2, x3, x4, x5, x6, x7), rfl, w.1, w.2⟩

theorem ty_need (h : TV n 189 cs) : ∃ s : NeedA, cs = needC s ∧ 0 ≤ s.2 ∧ s.2 ≤ 4294967295 := by
  obtain ⟨m, rfl, a, b, rfl, h1, c, d, rfl, h2, hf⟩ := ty_struct (ts := [3, 187]) Tryz.underlying189 rfl h
  obtain ⟨x1, rfl, _⟩ := ty_int Tryz.underlying3 h1
  obtain ⟨x2, rfl, w⟩ := ty_int Tryz.underlying187 h2
  simp only [TyVs] at hf; subst hf
  simp only [Lit.wf, Bool.and_eq_true, decide_eq_true_eq] at w
  exact ⟨(x1, x2), rfl, w.1, w.2⟩

theorem ty_back (h : TV n 174 cs) (Z : Nat → Prop) (H : Heap) : ∃ b, BackR Z H cs b ∧ (wBack b).length ≤ 10 * bulkL cs := by
  obtain ⟨m, rfl, a, b, rfl, h1, c, d, rfl, h2, e, f, rfl, h3, a4, b4, rfl, h4, hf⟩ := ty_struct (ts := [3, 3, 22, 22]) Tryz.underlying174 rfl h
  obtain ⟨x1, rfl, _⟩ := ty_int Tryz.underlying3 h1
  obtain ⟨x2, rfl, _⟩ := ty_int Tryz.underlying3 h2
  obtain ⟨v, l, rfl, r1, k1⟩ := ty_ints h3 Z H
  obtain ⟨w, s, rfl, r2, k2⟩ := ty_ints h4 Z H
  simp only [TyVs] at hf; subst hf
  refine ⟨(x1, x2, l, s), ⟨v, w, rfl, r1, r2⟩, ?_⟩
  have q1 := ints_10 [x1, x2]
  have q2 := ints_10 l
  have q3 := ints_10 s
  have q4 := encU_10 l.length
  have q5 := encU_10 s.length
  simp only [wBack, List.length_append, bulkL, bulkL_append, bulkV, List.length_cons, List.length_nil] at q1 ⊢
  omega

theorem ty_exit (h : TV n 172 cs) (Z : Nat → Prop) (H : Heap) : ∃ l, ExitR Z H cs l ∧ (wExit l).length ≤ 10 * bulkL cs := by
  obtain ⟨v, es, m, rfl, _, rfl, he, hbe, hs⟩ := ty_slice Tryz.underlying172 h
  obtain ⟨l, hl⟩ := all2_ex fun c hc => ty_back (he c hc) Z H
  refine ⟨l, ⟨v, es, rfl, sl_rsz hs (fun c hc => ?_) H, hl.mono fun _ _ _ _ k => k.1⟩, ?_⟩
  · obtain ⟨b, hb, _⟩ := ty_back (he c hc) Z H
    exact hb.shape
  · have h2 := encL_bulk (hl.mono fun _ _ _ _ k => k.2)
    have h3 := sl_bulk hs
    have h4 := encU_10 l.length
    simp only [wExit, List.length_append, bulkL]
    omega

theorem ty_fast (h : TV n 75 cs) (Z : Nat → Prop) (H : Heap) : ∃ f, FastR Z H cs f ∧ TyF f ∧ (wFast f).length ≤ 10 * bulkL cs := by
  obtain ⟨m, rfl, a, b, rfl, h1, c, d, rfl, h2, e, f, rfl, h3, a4, b4, rfl, h4, a5, b5, rfl, h5, hf⟩ := ty_struct (ts := [3, 3, 71, 72, 73]) Tryz.underlying75 rfl h
  obtain ⟨x1, rfl, _⟩ := ty_int Tryz.underlying3 h1
  obtain ⟨x2, rfl, _⟩ := ty_int Tryz.underlying3 h2
  obtain ⟨v1, es1, m1, rfl, _, rfl, he1, hb1, hs1⟩ := ty_slice Tryz.underlying71 h3
  obtain ⟨v2, es2, m2, rfl, _, hm2, he2, hb2, hs2⟩ := ty_slice Tryz.underlying72 h4
  obtain ⟨v3, es3, m3, rfl, _, hm3, he3, hb3, hs3⟩ := ty_slice Tryz.underlying73 h5
  simp only [TyVs] at hf; subst hf
  have k1 : ∀ c ∈ es1, ∃ s : SpecA, c = specC s ∧ 0 ≤ s.1 ∧ s.1 ≤ 255 := fun c hc => ty_spec (he1 c hc)
  have k3 : ∀ c ∈ es3, ∃ s : NeedA, c = needC s ∧ 0 ≤ s.2 ∧ s.2 ≤ 4294967295 := fun c hc => ty_need (he3 c hc)
  obtain ⟨l1, hl1⟩ := all2_ex k1
  obtain ⟨l2, hl2⟩ := all2_ex fun c hc => ty_exit (he2 c hc) Z H
  obtain ⟨l3, hl3⟩ := all2_ex k3
  have e1 := all2_map (hl1.mono fun _ _ _ _ k => k.1)
  have e3 := all2_map (hl3.mono fun _ _ _ _ k => k.1)
  refine ⟨(x1, x2, l1, l2, l3), ⟨v1, v2, v3, es2, rfl, ?_, sl_rsz hs2 (fun c hc => ?_) H, hl2.mono fun _ _ _ _ k => k.1, ?_⟩, ⟨fun s hs => ?_, fun s hs => ?_⟩, ?_⟩
  · rw [← e1]
    exact sl_rsz hs1 (fun c hc => by obtain ⟨s, rfl, _⟩ := k1 c hc; exact ⟨rfl, rfl⟩) H
  · obtain ⟨b, hb, _⟩ := ty_exit (he2 c hc) Z H
    exact hb.shape
  · rw [← e3]
    exact sl_rsz hs3 (fun c hc => by obtain ⟨s, rfl, _⟩ := k3 c hc; exact ⟨rfl, rfl⟩) H
  · obtain ⟨c, _, k⟩ := all2_mem hl1 hs
    exact k.2
  · obtain ⟨c, _, k⟩ := all2_mem hl3 hs
    exact k.2
  · have q1 := ints_10 [x1, x2]
    have q2 := encL_bulk (f := wSpec) (hl1.mono fun _ _ _ _ k => by rw [k.1]; exact wSpec_10 _)
    have q3 := encL_bulk (f := wExit) (hl2.mono fun _ _ _ _ k => k.2)
    have q4 := encL_bulk (f := wNeed) (hl3.mono fun _ _ _ _ k => by rw [k.1]; exact wNeed_10 _)
    have p1 := sl_bulk hs1
    have p2 := sl_bulk hs2
    have p3 := sl_bulk hs3
    have p4 := encU_10 l1.length
    have p5 := encU_10 l2.length
    have p6 := encU_10 l3.length
    simp only [wFast, List.length_append, bulkL, bulkL_append, bulkV, List.length_cons, List.length_nil] at q1 ⊢
    omega

end AmT
