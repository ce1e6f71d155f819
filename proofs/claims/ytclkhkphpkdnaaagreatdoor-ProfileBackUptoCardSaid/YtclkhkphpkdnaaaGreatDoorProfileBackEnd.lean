/-
  ProfileBack's run, over any table of tokens. Conditions: the argument is plain data, of bulk at most 1048576.
-/
import Derived.Test.YtclkhkphpkdnaaaGreatDoorProfileBackRun
import Derived.Test.YtclkhkphpkdnaaaGreatDoorAw13
import Derived.Test.YtclkhkphpkdnaaaGreatDoorCallsOf
import Derived.Test.YtclkhkphpkdnaaaGreatDoorTyBytes
namespace AmT
open Go Am Go.Proofs
set_option maxRecDepth 100000
set_option linter.unusedSimpArgs false
set_option linter.unusedVariables false

def O13 : CallF := memoO [⟨6, [], .bool true⟩]
theorem O13_ok {t : Nat → Option V} (ht : FlatT t) : CallOk (CC t) O13 := memoO_ok (by simp [mAwake13 ht])
theorem O13_off : Off13b O13 := { toAd := { c1 := fun _ _ => rfl, c2 := fun _ _ => rfl, l1 := fun _ _ => rfl, l2 := fun _ _ => rfl, b := fun _ _ => rfl, ad := fun _ _ => rfl }, toPr := { gu := fun _ _ => rfl, nu := fun _ _ => rfl, rd := fun _ _ => rfl }, toPw := { u := fun _ _ => rfl, p1 := fun _ _ => rfl, by_ := fun _ _ => rfl }, eq := fun _ _ => rfl, aw := fun _ => rfl, gr := fun _ _ => rfl, sm := fun _ _ => rfl, law := fun _ _ => rfl }

theorem sl_bulk {v : V} {es : List (List V)} (h : v = .nils ∧ es = [] ∨ v = .vec (es.map .agg)) : bulkL (es.map .agg) + 1 ≤ bulkV v := by
  rcases h with ⟨rfl, rfl⟩ | rfl
  · simp [bulkL, bulkV]
  · simp [bulkV]

theorem ty_top {n : Nat} {cs : List V} (h : TV n 35 cs) : ∃ t : Int × Int, cs = topC t ∧ TyTop t := by
  obtain ⟨m, rfl, a, b, rfl, k1, c, d, rfl, k2, hf⟩ := ty_arr Tryz.underlying35 h
  obtain ⟨x0, rfl, w0⟩ := ty_int Tryz.underlying5 k1
  obtain ⟨x1, rfl, w1⟩ := ty_int Tryz.underlying5 k2
  simp only [TyVs] at hf; subst hf
  simp only [Lit.wf, Bool.and_eq_true, decide_eq_true_eq] at w0 w1
  exact ⟨(x0, x1), rfl, ⟨w0.1, w0.2⟩, w1.1, w1.2⟩

theorem ty_seen {n : Nat} {cs : List V} (h : TV n 34 cs) (hb : bulkL cs ≤ 1048576) (H : Heap) : ∃ s : SeenT, SeenR H cs s ∧ (∀ t ∈ s.2, TyTop t) ∧ (cSeen.enc s).length ≤ 10 * bulkL cs := by
  obtain ⟨m, rfl, a, b, rfl, h1, e, f, rfl, h2, hf⟩ := ty_struct (ts := [3, 32]) Tryz.underlying34 rfl h
  obtain ⟨x, rfl, _⟩ := ty_int Tryz.underlying3 h1
  obtain ⟨v, es, k, rfl, _, rfl, he, hbe, hv⟩ := ty_slice Tryz.underlying32 h2
  simp only [TyVs] at hf; subst hf
  have h1 : ∀ c ∈ es, ∃ t : Int × Int, c = topC t ∧ TyTop t := fun c hc => ty_top (he c hc)
  obtain ⟨L, hL⟩ := all2_ex h1
  have e1 := all2_map (hL.mono fun _ _ _ _ k => k.1)
  have hl : ∀ c ∈ es, c.length = 2 ∧ allOne c = true := fun c hc => by
    obtain ⟨t, rfl, _⟩ := h1 c hc
    exact ⟨rfl, rfl⟩
  have hn := sl_len hl (by decide) (Nat.le_refl _)
  have p1 := sl_bulk hv
  have hll := hL.1
  refine ⟨(x, L), ⟨v, rfl, ?_, ?_⟩, fun t ht => ?_, ?_⟩
  · show RS H 2 v (L.map topC)
    rw [← e1]
    exact sl_rs hv hl H
  · simp only [bulkL, bulkL_append] at hb
    show L.length ≤ 2097152
    omega
  · obtain ⟨c, _, k⟩ := all2_mem hL ht
    exact k.2
  · have q1 := encU_10 x.toNat
    have q2 := encU_10 L.length
    have q3 := encL_top L
    rw [enc_seen]
    simp only [List.length_append, bulkL, bulkL_append, bulkV] at p1 hb ⊢
    omega

theorem ty_prof {n : Nat} {cs : List V} (h : TV n 24 cs) (hb : bulkL cs ≤ 1048576) (H : Heap) : ∃ v P, cs = [v] ∧ ProfR H v P ∧ TyProf P ∧ (cProf.enc P).length ≤ 10 * bulkL cs := by
  obtain ⟨m, rfl, e, f, rfl, h2, hf⟩ := ty_struct (ts := [22]) Tryz.underlying24 rfl h
  obtain ⟨v, es, k, rfl, _, rfl, he, hbe, hv⟩ := ty_slice Tryz.underlying22 h2
  simp only [TyVs] at hf; subst hf
  simp only [bulkL, bulkL_append] at hb hbe
  have hs : ∀ c ∈ es, ∃ s : SeenT, SeenR H c s ∧ (∀ t ∈ s.2, TyTop t) ∧ (cSeen.enc s).length ≤ 10 * bulkL c := fun c hc => ty_seen (he c hc) (by have := bulk_mem hc; omega) H
  obtain ⟨P, hP⟩ := all2_ex hs
  have hl : ∀ c ∈ es, c.length = 2 ∧ allOne c = true := fun c hc => by
    obtain ⟨s, ⟨tv, rfl, r, _⟩, _⟩ := hs c hc
    exact ⟨rfl, by simp only [allOne, r.one]; rfl⟩
  have hn := sl_len hl (by decide) (Nat.le_refl _)
  have p1 := sl_bulk hv
  have hll := hP.1
  refine ⟨v, P, rfl, ⟨es, sl_rs hv hl H, hP.1, by omega, fun i x s hx hs => (hP.2 i x s hx hs).1⟩, fun s hs => ?_, ?_⟩
  · obtain ⟨c, _, k⟩ := all2_mem hP hs
    exact k.2.1
  · have q2 := encU_10 P.length
    have q3 := encL_bulk (f := cSeen.enc) (hP.mono fun _ _ _ _ k => k.2.2)
    rw [enc_prof]
    simp only [List.length_append, bulkL, bulkL_append] at p1 ⊢
    omega

theorem profileBack_run {t : Nat → Option V} (ht : FlatT t) (a0 : List V) (w0 : ∃ n, TV n 27 a0) (hb : bulkL a0 ≤ 1048576) :
    ∃ H', CallsTo (CC t) 3 [.agg a0] Heap.empty (.bool true) H' := by
  obtain ⟨n0, h0⟩ := w0
  obtain ⟨m, rfl, a, b, rfl, h1, c, d, rfl, h2, e, f, rfl, h3, hf⟩ := ty_struct (ts := [24, 24, 25]) Tryz.underlying27 rfl h0
  simp only [TyVs] at hf; subst hf
  simp only [bulkL, bulkL_append] at hb
  obtain ⟨v0, P, rfl, r0, t0, l0⟩ := ty_prof h1 (by omega) Heap.empty
  obtain ⟨v1, Q, rfl, r1, _, _⟩ := ty_prof h2 (by omega) Heap.empty
  obtain ⟨v, bs, rfl, k4⟩ := ty_bytes h3 (by omega) Heap.empty
  exact calls_of ht (O13_ok ht) (profileBack_ok O13_off r0 r1 t0 (by omega) k4)
end AmT
