/-
  ProfileAdds' run, over any table of tokens. Conditions: the arguments are plain data, of bulk at most 1048576.
-/
import Derived.Test.YtofigbfckofbmaaGreatDoorProfileAddsRun
import Derived.Test.YtofigbfckofbmaaGreatDoorAw13
import Derived.Test.YtofigbfckofbmaaGreatDoorCallsOf
import Derived.Test.YtofigbfckofbmaaGreatDoorTy
namespace AmT
open Go Am Go.Proofs
set_option maxRecDepth 100000
set_option linter.unusedSimpArgs false
set_option linter.unusedVariables false

def O13 : CallF := memoO [⟨15, [], .bool true⟩]
theorem O13_ok {t : Nat → Option V} (ht : FlatT t) : CallOk (CC t) O13 := memoO_ok (by simp [mAwake13 ht])
theorem O13_off : Off13 O13 := { c1 := fun _ _ => rfl, c2 := fun _ _ => rfl, l1 := fun _ _ => rfl, l2 := fun _ _ => rfl, b := fun _ _ => rfl, ad := fun _ _ => rfl, aw := fun _ => rfl, gr := fun _ _ => rfl, sm := fun _ _ => rfl, law := fun _ _ => rfl }

theorem ty_top {n : Nat} {cs : List V} (h : TV n 107 cs) : ∃ t : Int × Int, cs = topC t := by
  obtain ⟨m, rfl, a, b, rfl, k1, c, d, rfl, k2, hf⟩ := ty_arr Tryz.underlying107 h
  obtain ⟨x0, rfl, _⟩ := ty_int Tryz.underlying5 k1
  obtain ⟨x1, rfl, _⟩ := ty_int Tryz.underlying5 k2
  simp only [TyVs] at hf; subst hf
  exact ⟨(x0, x1), rfl⟩

theorem lift {α β : Type} {P : α → β → Prop} : ∀ {l : List α}, (∀ a ∈ l, ∃ b, P a b) → ∃ m : List β, m.length = l.length ∧ ∀ (i : Nat) (a : α) (b : β), l[i]? = some a → m[i]? = some b → P a b
  | [], _ => ⟨[], rfl, by simp⟩
  | a :: l, h => by
    obtain ⟨b, hb⟩ := h a (by simp)
    obtain ⟨m, h1, h2⟩ := lift (l := l) fun x hx => h x (by simp [hx])
    refine ⟨b :: m, by simp [h1], fun i x y hx hy => ?_⟩
    cases i with
    | zero => simp at hx hy; subst hx; subst hy; exact hb
    | succ i => simp at hx hy; exact h2 i x y hx hy

theorem ty_seen {n : Nat} {cs : List V} (h : TV n 57 cs) (hb : bulkL cs ≤ 1048576) (H : Heap) : ∃ s : SeenT, SeenR H cs s := by
  obtain ⟨m, rfl, a, b, rfl, h1, e, f, rfl, h2, hf⟩ := ty_struct (ts := [3, 55]) Tryz.underlying57 rfl h
  obtain ⟨x, rfl, _⟩ := ty_int Tryz.underlying3 h1
  obtain ⟨v, es, k, rfl, _, rfl, he, hbe, hv⟩ := ty_slice Tryz.underlying55 h2
  simp only [TyVs] at hf; subst hf
  obtain ⟨L, hL⟩ : ∃ L : List (Int × Int), es = L.map topC := by
    obtain ⟨L, h1, h2⟩ := lift (P := fun (c : List V) (t : Int × Int) => c = topC t) fun c hc => ty_top (he c hc)
    refine ⟨L, List.ext_getElem? fun i => ?_⟩
    by_cases hi : i < es.length
    · have := h2 i es[i] (L[i]'(by omega)) (List.getElem?_eq_getElem hi) (List.getElem?_eq_getElem (by omega))
      simp [List.getElem?_eq_getElem hi, List.getElem?_eq_getElem (show i < L.length by omega), this]
    · simp [List.getElem?_eq_none (show es.length ≤ i by omega), List.getElem?_eq_none (show L.length ≤ i by omega)]
  have hl : ∀ c ∈ es, c.length = 2 ∧ allOne c = true := fun c hc => by
    obtain ⟨t, rfl⟩ := ty_top (he c hc)
    exact ⟨rfl, rfl⟩
  have hn := sl_len hl (by decide) hbe
  subst hL
  refine ⟨(x, L), v, rfl, sl_rs hv hl H, ?_⟩
  simp only [bulkL, bulkL_append, List.length_map] at hb hn ⊢
  omega

theorem ty_prof {n : Nat} {cs : List V} (h : TV n 51 cs) (hb : bulkL cs ≤ 1048576) (H : Heap) : ∃ v P, cs = [v] ∧ ProfR H v P := by
  obtain ⟨m, rfl, e, f, rfl, h2, hf⟩ := ty_struct (ts := [49]) Tryz.underlying51 rfl h
  obtain ⟨v, es, k, rfl, _, rfl, he, hbe, hv⟩ := ty_slice Tryz.underlying49 h2
  simp only [TyVs] at hf; subst hf
  simp only [bulkL, bulkL_append] at hb hbe
  have hs : ∀ c ∈ es, ∃ s : SeenT, SeenR H c s := fun c hc => ty_seen (he c hc) (by have := bulk_mem hc; omega) H
  obtain ⟨P, hP, hg⟩ := lift hs
  have hl : ∀ c ∈ es, c.length = 2 ∧ allOne c = true := fun c hc => by
    obtain ⟨s, tv, rfl, r, _⟩ := hs c hc
    exact ⟨rfl, by simp only [allOne, r.one]; rfl⟩
  have hn := sl_len hl (by decide) (Nat.le_refl _)
  exact ⟨v, P, rfl, es, sl_rs hv hl H, hP.symm, by omega, hg⟩

theorem profileAdds_run {t : Nat → Option V} (ht : FlatT t) (a0 a1 a2 : List V) (w0 : ∃ n, TV n 51 a0) (w1 : ∃ n, TV n 51 a1) (w2 : ∃ n, TV n 51 a2) (hb : bulkL a0 + bulkL a1 + bulkL a2 ≤ 1048576) :
    ∃ H', CallsTo (CC t) 6 [.agg a0, .agg a1, .agg a2] Heap.empty (.bool true) H' := by
  obtain ⟨n0, h0⟩ := w0
  obtain ⟨n1, h1⟩ := w1
  obtain ⟨n2, h2⟩ := w2
  obtain ⟨v0, P, rfl, r0⟩ := ty_prof h0 (by omega) Heap.empty
  obtain ⟨v1, Q, rfl, r1⟩ := ty_prof h1 (by omega) Heap.empty
  obtain ⟨v2, C, rfl, r2⟩ := ty_prof h2 (by omega) Heap.empty
  exact calls_of ht (O13_ok ht) (profileAdds_ok O13_off r0 r1 r2)
end AmT
