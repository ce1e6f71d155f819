/-
  Values, messages and turns as the rows read them. Conditions: none.
-/
import Derived.Test.YtofigbfckofbmaaGreatDoorTy
import Derived.Test.YtofigbfckofbmaaGreatDoorBaseNoneRun
namespace AmT
open Go Am Go.Proofs
set_option maxRecDepth 100000
set_option linter.unusedSimpArgs false
set_option linter.unusedVariables false

theorem ValC.succ : ∀ {n : Nat} {c : List V}, ValC n c → ValC (n + 1) c
  | 0, _, h => h.elim
  | n + 1, c, ⟨k, x, s, v, es, e, hv, he, b⟩ => ⟨k, x, s, v, es, e, hv, fun a ha => (he a ha).succ, b⟩

theorem ty_valC : ∀ (n : Nat) {cs : List V}, TV n 76 cs → bulkL cs ≤ 1048576 → ValC n cs
  | 0, _, h, _ => h.elim
  | 1, cs, h, hb => by
    obtain ⟨m, hm, a, b, rfl, h1, _⟩ := ty_struct (ts := [74, 2, 9, 22]) Tryz.underlying76 rfl h
    cases hm
    exact h1.elim
  | n + 2, cs, h, hb => by
    obtain ⟨m, hm, a, b, rfl, h1, c, d, rfl, h2, e, f, rfl, h3, e2, f2, rfl, h4, hf⟩ := ty_struct (ts := [74, 2, 9, 22]) Tryz.underlying76 rfl h
    cases hm
    obtain ⟨o, rfl, _⟩ := ty_int Tryz.underlying74 h1
    obtain ⟨x, rfl, _⟩ := ty_int Tryz.underlying2 h2
    obtain ⟨y, rfl⟩ := ty_str Tryz.underlying9 h3
    obtain ⟨v, es, k, rfl, _, hk, he, hbe, hv⟩ := ty_slice Tryz.underlying22 h4
    cases hk
    simp only [TyVs] at hf; subst hf
    have hl : ∀ c ∈ es, c.length = 4 ∧ allOne c = true := fun c hc => ty_val (he c hc)
    have hn := sl_len hl (by decide) hbe
    simp only [bulkL, bulkV, bulkL_append] at hb hbe hn
    exact ⟨o, x, y, v, es, rfl, hv, fun c hc => (ty_valC n (he c hc) (by have := bulk_mem hc; omega)).succ, by omega, by omega⟩

theorem ty_vals {n : Nat} {cs : List V} (h : TV n 22 cs) (hb : bulkL cs ≤ 1048576) : ∃ v l, cs = [v] ∧ (∀ H, RS H 4 v l) ∧ ValsC l := by
  obtain ⟨v, es, k, rfl, _, rfl, he, hbe, hv⟩ := ty_slice Tryz.underlying22 h
  have hl : ∀ c ∈ es, c.length = 4 ∧ allOne c = true := fun c hc => ty_val (he c hc)
  have hn := sl_len hl (by decide) hbe
  exact ⟨v, es, rfl, fun H => sl_rs hv hl H, by omega, fun c hc => ⟨k, ty_valC k (he c hc) (by have := bulk_mem hc; omega)⟩⟩

theorem ty_ask {n : Nat} {cs : List V} (h : TV n 60 cs) (hb : bulkL cs ≤ 1048576) : AskV cs := by
  obtain ⟨m, rfl, a, b, rfl, h1, c, d, rfl, h2, e, f, rfl, h3, e2, f2, rfl, h4, e3, f3, rfl, h5, e4, f4, rfl, h6, e5, f5, rfl, h7, hf⟩ := ty_struct (ts := [3, 22, 9, 22, 2, 2, 3]) Tryz.underlying60 rfl h
  simp only [bulkL_append] at hb
  obtain ⟨x1, rfl, _⟩ := ty_int Tryz.underlying3 h1
  obtain ⟨v2, l2, rfl, r2, k2⟩ := ty_vals h2 (by omega)
  obtain ⟨x3, rfl⟩ := ty_str Tryz.underlying9 h3
  obtain ⟨v4, l4, rfl, r4, k4⟩ := ty_vals h4 (by omega)
  obtain ⟨x5, rfl, _⟩ := ty_int Tryz.underlying2 h5
  obtain ⟨x6, rfl, _⟩ := ty_int Tryz.underlying2 h6
  obtain ⟨x7, rfl, _⟩ := ty_int Tryz.underlying3 h7
  simp only [TyVs] at hf; subst hf
  exact ⟨x1, v2, x3, v4, x5, x6, x7, l2, l4, rfl, r2, k2, r4, k4⟩

theorem ty_frame {n : Nat} {cs : List V} (h : TV n 118 cs) (hb : bulkL cs ≤ 1048576) : ∃ f : FrT, ∀ H, FrameR H cs f := by
  obtain ⟨m, rfl, a, b, rfl, h1, c, d, rfl, h2, e, f, rfl, h3, e2, f2, rfl, h4, hf⟩ := ty_struct (ts := [3, 3, 22, 22]) Tryz.underlying118 rfl h
  simp only [bulkL_append] at hb
  obtain ⟨x1, rfl, _⟩ := ty_int Tryz.underlying3 h1
  obtain ⟨x2, rfl, _⟩ := ty_int Tryz.underlying3 h2
  obtain ⟨v3, l3, rfl, r3, k3⟩ := ty_vals h3 (by omega)
  obtain ⟨v4, l4, rfl, r4, k4⟩ := ty_vals h4 (by omega)
  simp only [TyVs] at hf; subst hf
  exact ⟨⟨x1, x2, l3, l4⟩, fun H => ⟨v3, v4, rfl, r3 H, r4 H, k3, k4⟩⟩

theorem ty_eff {n : Nat} {cs : List V} (h : TV n 120 cs) (hb : bulkL cs ≤ 1048576) : EffC cs := by
  obtain ⟨m, rfl, a, b, rfl, h1, c, d, rfl, h2, e, f, rfl, h3, e2, f2, rfl, h4, hf⟩ := ty_struct (ts := [2, 3, 9, 22]) Tryz.underlying120 rfl h
  simp only [bulkL_append] at hb
  obtain ⟨x1, rfl, _⟩ := ty_int Tryz.underlying2 h1
  obtain ⟨x2, rfl, _⟩ := ty_int Tryz.underlying3 h2
  obtain ⟨x3, rfl⟩ := ty_str Tryz.underlying9 h3
  obtain ⟨v4, l4, rfl, r4, k4⟩ := ty_vals h4 (by omega)
  simp only [TyVs] at hf; subst hf
  exact ⟨x1, x2, x3, v4, l4, rfl, r4, k4⟩

theorem lift12 {α β : Type} {P : α → β → Prop} : ∀ {l : List α}, (∀ a ∈ l, ∃ b, P a b) → ∃ m : List β, m.length = l.length ∧ ∀ (i : Nat) (a : α) (b : β), l[i]? = some a → m[i]? = some b → P a b
  | [], _ => ⟨[], rfl, by simp⟩
  | a :: l, h => by
    obtain ⟨b, hb⟩ := h a (by simp)
    obtain ⟨m, h1, h2⟩ := lift12 (l := l) fun x hx => h x (by simp [hx])
    refine ⟨b :: m, by simp [h1], fun i x y hx hy => ?_⟩
    cases i with
    | zero => simp at hx hy; subst hx; subst hy; exact hb
    | succ i => simp at hx hy; exact h2 i x y hx hy

theorem ty_turn {n : Nat} {cs : List V} (h : TV n 65 cs) (hb : bulkL cs ≤ 1048576) : ∃ T : TurnT, TurnV cs T ∧ (Lit.int .u8 T.over).wf = true := by
  obtain ⟨m, rfl, a, b, rfl, h1, c, d, rfl, h2, e, f, rfl, h3, e2, f2, rfl, h4, e3, f3, rfl, h5, e4, f4, rfl, h6, e5, f5, rfl, h7, e6, f6, rfl, h8, e7, f7, rfl, h9, hf⟩ := ty_struct (ts := [61, 62, 2, 2, 3, 63, 3, 3, 22]) Tryz.underlying65 rfl h
  simp only [bulkL_append] at hb
  obtain ⟨v1, l1, k1, rfl, _, hk1, he1, hbe1, hv1⟩ := ty_slice Tryz.underlying61 h1
  obtain ⟨v2, l2, k2, rfl, _, hk2, he2, hbe2, hv2⟩ := ty_slice Tryz.underlying62 h2
  obtain ⟨x3, rfl, _⟩ := ty_int Tryz.underlying2 h3
  obtain ⟨x4, rfl, _⟩ := ty_int Tryz.underlying2 h4
  obtain ⟨x5, rfl, _⟩ := ty_int Tryz.underlying3 h5
  obtain ⟨x6, rfl, w6⟩ := ty_int Tryz.underlying63 h6
  obtain ⟨x7, rfl, _⟩ := ty_int Tryz.underlying3 h7
  obtain ⟨x8, rfl, _⟩ := ty_int Tryz.underlying3 h8
  obtain ⟨v9, l9, rfl, r9, k9⟩ := ty_vals h9 (by omega)
  simp only [TyVs] at hf; subst hf
  have fr : ∀ c ∈ l1, ∃ f : FrT, ∀ H, FrameR H c f := fun c hc => ty_frame (he1 c hc) (by have := bulk_mem hc; omega)
  obtain ⟨F, hF, hg⟩ := lift12 fr
  have ef : ∀ c ∈ l2, EffC c := fun c hc => ty_eff (he2 c hc) (by have := bulk_mem hc; omega)
  have s1 : ∀ c ∈ l1, c.length = 4 ∧ allOne c = true := fun c hc => by
    obtain ⟨f, hf⟩ := fr c hc
    exact (hf Heap.empty).shape
  have s2 : ∀ c ∈ l2, c.length = 4 ∧ allOne c = true := fun c hc => (ef c hc).shape
  have n1 := sl_len s1 (by decide) hbe1
  have n2 := sl_len s2 (by decide) hbe2
  exact ⟨⟨F, l2, x3, x4, x5, x6, x7, x8, l9⟩, ⟨v1, v2, v9, l1, rfl, fun H => sl_rs hv1 s1 H, fun H => ⟨hF.symm, by simp only; omega, fun i x f hx hf => hg i x f hx hf H⟩, fun H => sl_rs hv2 s2 H, by simp only; omega, ef, r9, k9⟩, w6⟩
end AmT
