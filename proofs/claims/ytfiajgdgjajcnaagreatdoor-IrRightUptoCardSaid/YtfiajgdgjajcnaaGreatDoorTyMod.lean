/-
  Modules and messages as the rows read them, as data. Conditions: none.
-/
import Derived.Test.YtfiajgdgjajcnaaGreatDoorTy
namespace AmT
open Go Am Go.Proofs
set_option maxRecDepth 100000
set_option linter.unusedSimpArgs false
set_option linter.unusedVariables false

def NoZ0 : Nat → Prop := fun _ => False
theorem sl_z {v : V} {es : List (List V)} {esz : Nat} (h : v = .nils ∧ es = [] ∨ v = .vec (es.map .agg)) (hl : ∀ c ∈ es, c.length = esz ∧ allOne c = true) (H : Heap) : RSz NoZ0 H esz v es :=
  ⟨sl_rs h hl H, by rcases h with ⟨rfl, rfl⟩ | rfl <;> simp [slIds]⟩
theorem wfI {x : Int} (w : (Lit.int .i64 x).wf = true) : I64 x := by
  simp only [Lit.wf, Bool.and_eq_true, decide_eq_true_eq] at w
  have w1 : (-9223372036854775808 : Int) ≤ x := w.1
  have w2 : x ≤ (9223372036854775807 : Int) := w.2
  exact ⟨w1, by omega⟩
theorem wfB {x : Int} (w : (Lit.int .u8 x).wf = true) : 0 ≤ x ∧ x ≤ 255 := by
  simp only [Lit.wf, Bool.and_eq_true, decide_eq_true_eq] at w
  exact ⟨w.1, w.2⟩
theorem vasB_ex : ∀ {es : List (List V)}, (∀ c ∈ es, ∃ a : Val, (∀ H, VaR NoZ0 H a c) ∧ RngV a ∧ BndV a) → ∃ l, (∀ H, VasR NoZ0 H l es) ∧ (∀ a ∈ l, RngV a ∧ BndV a) ∧ l.length = es.length
  | [], _ => ⟨[], fun H => VasR.nil _ H, by simp, rfl⟩
  | c :: es, h => by
    obtain ⟨a, h1, h2⟩ := h c (by simp)
    obtain ⟨l, k1, k2, k3⟩ := vasB_ex fun x hx => h x (List.mem_cons_of_mem _ hx)
    refine ⟨a :: l, fun H => VasR.cons (h1 H) (k1 H), fun x hx => ?_, by simp [k3]⟩
    rcases List.mem_cons.1 hx with rfl | hx
    · exact h2
    · exact k2 x hx
theorem bndl_of : ∀ {l : List Val}, (∀ a ∈ l, BndV a) → BndVl l
  | [], _ => by unfold BndVl; trivial
  | a :: l, h => by
    unfold BndVl
    exact ⟨h a (List.mem_cons_self ..), bndl_of fun b hb => h b (List.mem_cons_of_mem _ hb)⟩
theorem ty_vaB : ∀ (n : Nat) {cs : List V}, TV n 32 cs → bulkL cs ≤ 1048576 → ∃ a : Val, (∀ H, VaR NoZ0 H a cs) ∧ RngV a ∧ BndV a
  | 0, _, h, _ => h.elim
  | 1, cs, h, hb => by
    obtain ⟨m, hm, a, b, rfl, h1, _⟩ := ty_struct (ts := [30, 2, 9, 23]) Tryz.underlying32 rfl h
    cases hm
    exact h1.elim
  | n + 2, cs, h, hb => by
    obtain ⟨m, hm, a, b, rfl, h1, c, d, rfl, h2, e, f, rfl, h3, e2, f2, rfl, h4, hf⟩ := ty_struct (ts := [30, 2, 9, 23]) Tryz.underlying32 rfl h
    cases hm
    obtain ⟨o, rfl, _⟩ := ty_int Tryz.underlying30 h1
    obtain ⟨x, rfl, wx⟩ := ty_int Tryz.underlying2 h2
    obtain ⟨y, rfl⟩ := ty_str Tryz.underlying9 h3
    obtain ⟨v, es, k, rfl, _, hk, he, hbe, hv⟩ := ty_slice Tryz.underlying23 h4
    cases hk
    simp only [TyVs] at hf; subst hf
    have hl : ∀ c ∈ es, c.length = 4 ∧ allOne c = true := fun c hc => ty_val (he c hc)
    have hn := sl_len hl (by decide) hbe
    simp only [bulkL, bulkV, bulkL_append] at hb hbe hn
    obtain ⟨l, k1, k2, k4⟩ := vasB_ex fun c hc => ty_vaB n (he c hc) (by have := bulk_mem hc; omega)
    have w := wfI wx
    refine ⟨.mk o x y l, fun H => ?_, ?_, ?_⟩
    · unfold VaR
      exact ⟨v, es, rfl, sl_z hv hl H, k1 H⟩
    · unfold RngV
      exact ⟨w.1, w.2, by omega, RngVl.of fun a ha => (k2 a ha).1⟩
    · unfold BndV
      exact ⟨by omega, by omega, bndl_of fun a ha => (k2 a ha).2⟩
theorem sl_len4 : ∀ {es : List (List V)}, (∀ c ∈ es, c.length = 4 ∧ allOne c = true) → 4 * es.length ≤ bulkL (es.map .agg)
  | [], _ => Nat.zero_le _
  | e :: es, h => by
    have h1 := h e (by simp)
    have h2 := sl_len4 (es := es) fun c hc => h c (by simp [hc])
    have h3 := bulk_len h1.2
    simp only [List.map_cons, bulkL, bulkV, List.length_cons]; omega
theorem ty_valsB {n : Nat} {cs : List V} (h : TV n 23 cs) (hb : bulkL cs ≤ 1048576) : ∃ v lc l, cs = [v] ∧ (∀ H, RSz NoZ0 H 4 v lc ∧ VasR NoZ0 H l lc) ∧ TyVl l := by
  obtain ⟨v, es, k, rfl, _, rfl, he, hbe, hv⟩ := ty_slice Tryz.underlying23 h
  have hl : ∀ c ∈ es, c.length = 4 ∧ allOne c = true := fun c hc => ty_val (he c hc)
  have hn := sl_len4 hl
  obtain ⟨l, k1, k2, k4⟩ := vasB_ex fun c hc => ty_vaB k (he c hc) (by have := bulk_mem hc; omega)
  have hbe2 := hbe
  simp only [bulkL] at hb hbe2
  exact ⟨v, es, l, rfl, fun H => ⟨sl_z hv hl H, k1 H⟩, by omega, k2⟩
theorem ty_insB {n : Nat} {cs : List V} (h : TV n 214 cs) : ∃ i : InsA, cs = insC i ∧ TyI i := by
  obtain ⟨m, rfl, a, b, rfl, h1, c, d, rfl, h2, e, f, rfl, h3, hf⟩ := ty_struct (ts := [212, 3, 3]) Tryz.underlying214 rfl h
  obtain ⟨o, rfl, w1⟩ := ty_int Tryz.underlying212 h1
  obtain ⟨x, rfl, w2⟩ := ty_int Tryz.underlying3 h2
  obtain ⟨y, rfl, w3⟩ := ty_int Tryz.underlying3 h3
  simp only [TyVs] at hf; subst hf
  exact ⟨⟨o, x, y⟩, rfl, (wfB w1).1, (wfB w1).2, wfI w2, wfI w3⟩
theorem ty_onB {n : Nat} {cs : List V} (h : TV n 144 cs) : ∃ o : OnA, cs = onC o ∧ TyOn o := by
  obtain ⟨m, rfl, a, b, rfl, h1, c, d, rfl, h2, e, f, rfl, h3, hf⟩ := ty_struct (ts := [9, 3, 3]) Tryz.underlying144 rfl h
  obtain ⟨o, rfl⟩ := ty_str Tryz.underlying9 h1
  obtain ⟨x, rfl, w2⟩ := ty_int Tryz.underlying3 h2
  obtain ⟨y, rfl, w3⟩ := ty_int Tryz.underlying3 h3
  simp only [TyVs] at hf; subst hf
  exact ⟨⟨o, x, y⟩, rfl, wfI w2, wfI w3⟩
theorem ty_fnB {n : Nat} {cs : List V} (h : TV n 90 cs) (hb : bulkL cs ≤ 1048576) : ∃ F : FnA, (∀ H, FnR NoZ0 H cs F) ∧ TyFn F := by
  obtain ⟨m, rfl, a, b, rfl, h1, c, d, rfl, h2, e, f, rfl, h3, e2, f2, rfl, h4, hf⟩ := ty_struct (ts := [9, 3, 3, 88]) Tryz.underlying90 rfl h
  obtain ⟨o, rfl⟩ := ty_str Tryz.underlying9 h1
  obtain ⟨x, rfl, w2⟩ := ty_int Tryz.underlying3 h2
  obtain ⟨y, rfl, w3⟩ := ty_int Tryz.underlying3 h3
  obtain ⟨v, es, k, rfl, _, rfl, he, hbe, hv⟩ := ty_slice Tryz.underlying88 h4
  simp only [TyVs] at hf; subst hf
  obtain ⟨l, hl⟩ := all2_ex fun c hc => ty_insB (he c hc)
  have e1 := all2_map (hl.mono fun _ _ _ _ k => k.1)
  have hs : ∀ c ∈ es, c.length = 3 ∧ allOne c = true := fun c hc => by obtain ⟨i, rfl, _⟩ := ty_insB (he c hc); exact ⟨rfl, rfl⟩
  have hn := sl_len hs (by decide) hbe
  simp only [bulkL, bulkL_append] at hb hn
  refine ⟨⟨o, x, y, l⟩, fun H => ⟨v, rfl, ?_⟩, wfI w2, wfI w3, ?_, fun i hi => ?_⟩
  · rw [← e1]; exact sl_z hv hs H
  · show l.length ≤ 1048576
    have := hl.1; omega
  · obtain ⟨c, _, k⟩ := all2_mem hl hi
    exact k.2
theorem ty_partB {n : Nat} {cs : List V} (h : TV n 140 cs) (hb : bulkL cs ≤ 1048576) : ∃ r : PartA, (∀ H, PartR NoZ0 H cs r) ∧ TyPt r := by
  obtain ⟨m, rfl, a, b, rfl, h1, c, d, rfl, h2, e2, f2, rfl, h4, hf⟩ := ty_struct (ts := [9, 3, 138]) Tryz.underlying140 rfl h
  obtain ⟨o, rfl⟩ := ty_str Tryz.underlying9 h1
  obtain ⟨x, rfl, w2⟩ := ty_int Tryz.underlying3 h2
  obtain ⟨v, es, k, rfl, _, rfl, he, hbe, hv⟩ := ty_slice Tryz.underlying138 h4
  simp only [TyVs] at hf; subst hf
  obtain ⟨l, hl⟩ := all2_ex fun c hc => ty_onB (he c hc)
  have e1 := all2_map (hl.mono fun _ _ _ _ k => k.1)
  have hs : ∀ c ∈ es, c.length = 3 ∧ allOne c = true := fun c hc => by obtain ⟨i, rfl, _⟩ := ty_onB (he c hc); exact ⟨rfl, rfl⟩
  have hn := sl_len hs (by decide) hbe
  simp only [bulkL, bulkL_append] at hb hn
  refine ⟨⟨o, x, l⟩, fun H => ⟨v, rfl, ?_⟩, wfI w2, ?_, fun i hi => ?_⟩
  · rw [← e1]; exact sl_z hv hs H
  · show l.length ≤ 1048576
    have := hl.1; omega
  · obtain ⟨c, _, k⟩ := all2_mem hl hi
    exact k.2
theorem all2_exH {β : Type} {R : Heap → List V → β → Prop} {P : β → Prop} : ∀ {es : List (List V)}, (∀ c ∈ es, ∃ b, (∀ H, R H c b) ∧ P b) → ∃ l : List β, (∀ H, All2 (R H) es l) ∧ (∀ b ∈ l, P b) ∧ l.length = es.length
  | [], _ => ⟨[], fun H => All2.nil _, by simp, rfl⟩
  | c :: es, h => by
    obtain ⟨a, h1, h2⟩ := h c (by simp)
    obtain ⟨l, k1, k2, k3⟩ := all2_exH fun x hx => h x (List.mem_cons_of_mem _ hx)
    refine ⟨a :: l, fun H => ⟨by simp [k3], fun i x y hx hy => ?_⟩, fun e he => ?_, by simp [k3]⟩
    · cases i with
      | zero => simp at hx hy; subst hx; subst hy; exact h1 H
      | succ i => simp at hx hy; exact (k1 H).2 i x y hx hy
    · rcases List.mem_cons.1 he with rfl | he
      · exact h2
      · exact k2 e he
theorem FnR.shapeB {Z : Nat → Prop} {h : Heap} {c : List V} {f : FnA} (k : FnR Z h c f) : c.length = 4 ∧ allOne c = true := by
  obtain ⟨v, rfl, r⟩ := k
  exact ⟨rfl, by simp only [allOne, r.1.one]; rfl⟩
theorem PartR.shapeB {Z : Nat → Prop} {h : Heap} {c : List V} {f : PartA} (k : PartR Z h c f) : c.length = 3 ∧ allOne c = true := by
  obtain ⟨v, rfl, r⟩ := k
  exact ⟨rfl, by simp only [allOne, r.1.one]; rfl⟩
theorem ty_modB {n : Nat} {cs : List V} (h : TV n 28 cs) (hb : bulkL cs ≤ 1048576) : ∃ M : ModA, (∀ H, ModR NoZ0 H cs M) ∧ TyM M := by
  obtain ⟨m, rfl, a, b, rfl, h1, c, d, rfl, h2, e, f, rfl, h3, e2, f2, rfl, h4, hf⟩ := ty_struct (ts := [23, 24, 25, 26]) Tryz.underlying28 rfl h
  obtain ⟨v1, es1, k1, rfl, _, rfl, he1, hbe1, hv1⟩ := ty_slice Tryz.underlying23 h1
  obtain ⟨v2, es2, k2, rfl, _, hk2, he2, hbe2, hv2⟩ := ty_slice Tryz.underlying24 h2
  obtain ⟨v3, es3, k3, rfl, _, hk3, he3, hbe3, hv3⟩ := ty_slice Tryz.underlying25 h3
  obtain ⟨v4, es4, k4, rfl, _, hk4, he4, hbe4, hv4⟩ := ty_slice Tryz.underlying26 h4
  simp only [TyVs] at hf; subst hf
  simp only [bulkL, bulkL_append] at hb hbe1 hbe2 hbe3 hbe4
  obtain ⟨l1, p1, q1, n1⟩ := vasB_ex fun c hc => ty_vaB k1 (he1 c hc) (by have := bulk_mem hc; omega)
  obtain ⟨l2, p2⟩ := all2_ex fun c hc => ty_str Tryz.underlying9 (he2 c hc)
  have e2 := all2_map (f := tagC) p2
  obtain ⟨l3, p3, q3, n3⟩ := all2_exH fun c hc => ty_fnB (he3 c hc) (by have := bulk_mem hc; omega)
  obtain ⟨l4, p4, q4, n4⟩ := all2_exH fun c hc => ty_partB (he4 c hc) (by have := bulk_mem hc; omega)
  have s1 : ∀ c ∈ es1, c.length = 4 ∧ allOne c = true := fun c hc => ty_val (he1 c hc)
  have s2 : ∀ c ∈ es2, c.length = 1 ∧ allOne c = true := fun c hc => by
    obtain ⟨s, rfl⟩ := ty_str Tryz.underlying9 (he2 c hc)
    exact ⟨rfl, rfl⟩
  have s3 : ∀ c ∈ es3, c.length = 4 ∧ allOne c = true := fun c hc => by
    obtain ⟨F, hF, _⟩ := ty_fnB (he3 c hc) (by have := bulk_mem hc; omega)
    exact FnR.shapeB (hF Heap.empty)
  have s4 : ∀ c ∈ es4, c.length = 3 ∧ allOne c = true := fun c hc => by
    obtain ⟨F, hF, _⟩ := ty_partB (he4 c hc) (by have := bulk_mem hc; omega)
    exact PartR.shapeB (hF Heap.empty)
  have b1 := sl_len s1 (by decide) (Nat.le_refl _)
  have b2 := sl_len s2 (by decide) (Nat.le_refl _)
  have b3 := sl_len s3 (by decide) (Nat.le_refl _)
  have b4 := sl_len s4 (by decide) (Nat.le_refl _)
  have n2 := p2.1
  refine ⟨⟨l1, l2, l3, l4⟩, fun H => ⟨v1, v2, v3, v4, es1, es3, es4, rfl, sl_z hv1 s1 H, p1 H, ?_, sl_z hv3 s3 H, p3 H, sl_z hv4 s4 H, p4 H⟩, ⟨?_, ?_, ?_, ?_, q1, q3, q4⟩⟩
  · show RSz NoZ0 H 1 v2 (l2.map tagC)
    rw [← e2]; exact sl_z hv2 s2 H
  · show l1.length ≤ _
    omega
  · show l2.length ≤ _
    omega
  · show l3.length ≤ _
    omega
  · show l4.length ≤ _
    omega
theorem ty_askB {n : Nat} {cs : List V} (h : TV n 59 cs) (hb : bulkL cs ≤ 1048576) : ∃ q : AskA, (∀ H, AskR NoZ0 H cs q) ∧ TyAsk q := by
  obtain ⟨m, rfl, a, b, rfl, h1, c, d, rfl, h2, e, f, rfl, h3, e2, f2, rfl, h4, e3, f3, rfl, h5, e4, f4, rfl, h6, e5, f5, rfl, h7, hf⟩ := ty_struct (ts := [3, 23, 9, 23, 2, 2, 3]) Tryz.underlying59 rfl h
  simp only [bulkL_append] at hb
  obtain ⟨x1, rfl, w1⟩ := ty_int Tryz.underlying3 h1
  obtain ⟨v2, c2, l2, rfl, r2, k2⟩ := ty_valsB h2 (by omega)
  obtain ⟨x3, rfl⟩ := ty_str Tryz.underlying9 h3
  obtain ⟨v4, c4, l4, rfl, r4, k4⟩ := ty_valsB h4 (by omega)
  obtain ⟨x5, rfl, w5⟩ := ty_int Tryz.underlying2 h5
  obtain ⟨x6, rfl, w6⟩ := ty_int Tryz.underlying2 h6
  obtain ⟨x7, rfl, w7⟩ := ty_int Tryz.underlying3 h7
  simp only [TyVs] at hf; subst hf
  exact ⟨⟨x1, l2, x3, l4, x5, x6, x7⟩, fun H => ⟨v2, v4, c2, c4, rfl, (r2 H).1, (r2 H).2, (r4 H).1, (r4 H).2⟩, wfI w1, k2, k4, wfI w5, wfI w6, wfI w7⟩
end AmT
