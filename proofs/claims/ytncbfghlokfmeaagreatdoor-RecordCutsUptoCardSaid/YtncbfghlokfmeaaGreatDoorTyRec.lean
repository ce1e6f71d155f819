/-
  Values, effects and records as the rows read them. Conditions: none.
-/
import Derived.Test.YtncbfghlokfmeaaGreatDoorTy
import Derived.Test.YtncbfghlokfmeaaGreatDoorRFew
namespace AmT
open Go Am Go.Proofs
set_option maxRecDepth 100000
set_option linter.unusedSimpArgs false
set_option linter.unusedVariables false

def NoZ : Nat → Prop := fun _ => False
theorem sl_bulk {v : V} {es : List (List V)} (h : v = .nils ∧ es = [] ∨ v = .vec (es.map .agg)) : bulkL (es.map .agg) + 1 ≤ bulkV v := by
  rcases h with ⟨rfl, rfl⟩ | rfl
  · simp [bulkL, bulkV]
  · simp [bulkV]
theorem sl_noz {v : V} {es : List (List V)} (h : v = .nils ∧ es = [] ∨ v = .vec (es.map .agg)) : ∀ j ∈ slIds v, NoZ j := by
  rcases h with ⟨rfl, rfl⟩ | rfl <;> simp [slIds]
theorem wf64 {x : Int} (w : (Lit.int .i64 x).wf = true) : I64 x := by
  simp only [Lit.wf, Bool.and_eq_true, decide_eq_true_eq] at w
  have w1 : (-9223372036854775808 : Int) ≤ x := w.1
  have w2 : x ≤ (9223372036854775807 : Int) := w.2
  exact ⟨w1, by omega⟩

theorem vas_ex : ∀ {es : List (List V)}, (∀ c ∈ es, ∃ a : Val, (∀ H, VaR NoZ H a c) ∧ RngV a ∧ (encV a).length ≤ 10 * bulkL c) → ∃ l, (∀ H, VasR NoZ H l es) ∧ RngVl l ∧ (encVs l).length ≤ 10 * bulkL (es.map .agg) ∧ l.length = es.length
  | [], _ => ⟨[], fun H => VasR.nil NoZ H, by unfold RngVl; trivial, by simp [encVs], rfl⟩
  | c :: es, h => by
    obtain ⟨a, h1, h2, h3⟩ := h c (by simp)
    obtain ⟨l, k1, k2, k3, k4⟩ := vas_ex fun x hx => h x (List.mem_cons_of_mem _ hx)
    refine ⟨a :: l, fun H => VasR.cons (h1 H) (k1 H), by unfold RngVl; exact ⟨h2, k2⟩, ?_, by simp [k4]⟩
    simp only [encVs, List.length_append, List.map_cons, bulkL, bulkV]
    omega

theorem encV_le (k n : Int) (s : List UInt8) (l : List Val) : (encV (.mk k n s l)).length ≤ 11 + s.length + (encVs l).length := by
  unfold encV
  have h1 := (encU_len 9 s.length).2
  have h2 := (encU_len 9 l.length).2
  have h3 := (encU_len 9 (zig n)).2
  simp only [List.length_cons]
  split
  · simp; omega
  · split
    · simp only [List.length_append, List.length_map]; omega
    · split
      · simp only [List.length_append]; omega
      · omega

theorem ty_va : ∀ (n : Nat) {cs : List V}, TV n 32 cs → bulkL cs ≤ 1048576 → ∃ a : Val, (∀ H, VaR NoZ H a cs) ∧ RngV a ∧ (encV a).length ≤ 10 * bulkL cs
  | 0, _, h, _ => h.elim
  | 1, cs, h, hb => by
    obtain ⟨m, hm, a, b, rfl, h1, _⟩ := ty_struct (ts := [30, 2, 9, 23]) Tryz.underlying32 rfl h
    cases hm
    exact h1.elim
  | n + 2, cs, h, hb => by
    obtain ⟨m, hm, a, b, rfl, h1, c, d, rfl, h2, e, f, rfl, h3, e2, f2, rfl, h4, hf⟩ := ty_struct (ts := [30, 2, 9, 23]) Tryz.underlying32 rfl h
    cases hm
    obtain ⟨o, rfl, _⟩ := ty_int Tryz.underlying30 h1
    obtain ⟨x, rfl, wx⟩ := ty_int Tryz.underlying2 h2
    obtain ⟨y, rfl⟩ := ty_str Tryz.underlying9 h3
    obtain ⟨v, es, k, rfl, _, hk, he, hbe, hv⟩ := ty_slice Tryz.underlying23 h4
    cases hk
    simp only [TyVs] at hf; subst hf
    have hl : ∀ c ∈ es, c.length = 4 ∧ allOne c = true := fun c hc => ty_val (he c hc)
    have hn := sl_len hl (by decide) hbe
    have p1 := sl_bulk hv
    simp only [bulkL, bulkV, bulkL_append] at hb hbe hn
    obtain ⟨l, k1, k2, k3, k4⟩ := vas_ex fun c hc => ty_va n (he c hc) (by have := bulk_mem hc; omega)
    have w := wf64 wx
    refine ⟨.mk o x y l, fun H => ?_, ?_, ?_⟩
    · unfold VaR
      exact ⟨v, es, rfl, ⟨sl_rs hv hl H, sl_noz hv⟩, k1 H⟩
    · unfold RngV
      exact ⟨w.1, w.2, by omega, k2⟩
    · have := encV_le o x y l
      simp only [bulkL, bulkV, bulkL_append] at p1 ⊢
      omega

theorem ty_valsz {n : Nat} {cs : List V} (h : TV n 23 cs) (hb : bulkL cs ≤ 1048576) : ∃ v lc l, cs = [v] ∧ (∀ H, RSz NoZ H 4 v lc ∧ VasR NoZ H l lc) ∧ (∀ a ∈ l, RngV a) ∧ l.length ≤ 2097152 ∧ (encVs l).length ≤ 10 * bulkV v := by
  obtain ⟨v, es, k, rfl, _, rfl, he, hbe, hv⟩ := ty_slice Tryz.underlying23 h
  have hl : ∀ c ∈ es, c.length = 4 ∧ allOne c = true := fun c hc => ty_val (he c hc)
  have hn := sl_len hl (by decide) hbe
  have p1 := sl_bulk hv
  obtain ⟨l, k1, k2, k3, k4⟩ := vas_ex fun c hc => ty_va k (he c hc) (by have := bulk_mem hc; omega)
  simp only [bulkL] at hb hn
  exact ⟨v, es, l, rfl, fun H => ⟨⟨sl_rs hv hl H, sl_noz hv⟩, k1 H⟩, k2.mem, by omega, by omega⟩

theorem bulk_pos {v : V} {es : List (List V)} (h : v = .nils ∧ es = [] ∨ v = .vec (es.map .agg)) : 1 ≤ bulkV v := by have := sl_bulk h; omega

theorem ty_effz {n : Nat} {cs : List V} (h : TV n 46 cs) (hb : bulkL cs ≤ 1048576) : ∃ e : EffT, (∀ H, EffZ NoZ H cs e) ∧ I64 e.1 ∧ I64 e.2.1 ∧ (∀ a ∈ e.2.2.2, RngV a) ∧ e.2.2.2.length ≤ 2097152 ∧ (cEff.enc e).length ≤ 20 * bulkL cs := by
  obtain ⟨m, rfl, a, b, rfl, h1, c, d, rfl, h2, e, f, rfl, h3, e2, f2, rfl, h4, hf⟩ := ty_struct (ts := [2, 3, 9, 23]) Tryz.underlying46 rfl h
  simp only [bulkL_append] at hb
  obtain ⟨x1, rfl, w1⟩ := ty_int Tryz.underlying2 h1
  obtain ⟨x2, rfl, w2⟩ := ty_int Tryz.underlying3 h2
  obtain ⟨x3, rfl⟩ := ty_str Tryz.underlying9 h3
  obtain ⟨v, lc, l, rfl, k1, k2, k3, k4⟩ := ty_valsz h4 (by omega)
  simp only [TyVs] at hf; subst hf
  refine ⟨(x1, x2, x3, l), fun H => ⟨v, lc, rfl, (k1 H).1, (k1 H).2⟩, wf64 w1, wf64 w2, k2, k3, ?_⟩
  have q1 := (encU_len 9 (zig x1)).2
  have q2 := (encU_len 9 (zig x2)).2
  have q3 := (encU_len 9 x3.length).2
  have q4 := (encU_len 9 l.length).2
  rw [enc_eff, enc_tag, enc_vals]
  simp only [List.length_append, List.length_map, bulkL, bulkV, bulkL_append]
  omega

theorem effs_ex : ∀ {es : List (List V)}, (∀ c ∈ es, ∃ e : EffT, (∀ H, EffZ NoZ H c e) ∧ I64 e.1 ∧ I64 e.2.1 ∧ (∀ a ∈ e.2.2.2, RngV a) ∧ e.2.2.2.length ≤ 2097152 ∧ (cEff.enc e).length ≤ 20 * bulkL c) → ∃ l : List EffT, (∀ H, All2 (EffZ NoZ H) es l) ∧ (∀ e ∈ l, (I64 e.1 ∧ I64 e.2.1 ∧ ∀ a ∈ e.2.2.2, RngV a) ∧ e.2.2.2.length ≤ 2097152) ∧ (encL cEff.enc l).length ≤ 20 * bulkL (es.map .agg)
  | [], _ => ⟨[], fun H => All2.nil _, by simp, by simp [encL]⟩
  | c :: es, h => by
    obtain ⟨a, h1, h2, h3, h4, h5, h6⟩ := h c (by simp)
    obtain ⟨l, k1, k2, k3⟩ := effs_ex fun x hx => h x (List.mem_cons_of_mem _ hx)
    refine ⟨a :: l, fun H => ⟨by simp [(k1 H).1], fun i x y hx hy => ?_⟩, fun e he => ?_, ?_⟩
    · cases i with
      | zero => simp at hx hy; subst hx; subst hy; exact h1 H
      | succ i => simp at hx hy; exact (k1 H).2 i x y hx hy
    · rcases List.mem_cons.1 he with rfl | he
      · exact ⟨⟨h2, h3, h4⟩, h5⟩
      · exact k2 e he
    · simp only [encL, List.length_append, List.map_cons, bulkL, bulkV]
      omega

theorem encL_i64 : ∀ l : List Int, (encL cI64.enc l).length ≤ 10 * l.length
  | [] => by simp [encL]
  | a :: l => by
    have h1 := (encU_len 9 (zig a)).2
    have h2 := encL_i64 l
    show (encU 9 (zig a) ++ encL cI64.enc l).length ≤ _
    simp only [List.length_append, List.length_cons]
    omega

theorem ty_rec {n : Nat} {cs : List V} (h : TV n 68 cs) (hb : bulkL cs ≤ 1048576) (H : Heap) : ∃ R : RecT, RecR NoZ H cs R ∧ TyR R ∧ LenR R ∧ (cRec.enc R).length ≤ 20 * bulkL cs := by
  obtain ⟨m, rfl, a, b, rfl, h1, c, d, rfl, h2, e, f, rfl, h3, e2, f2, rfl, h4, e3, f3, rfl, h5, e4, f4, rfl, h6, e5, f5, rfl, h7, e6, f6, rfl, h8, e7, f7, rfl, h9, hf⟩ := ty_struct (ts := [2, 66, 35, 3, 3, 34, 3, 23, 2]) Tryz.underlying68 rfl h
  simp only [bulkL_append] at hb
  obtain ⟨m', hm', a', b', rfl, g1, c', d', rfl, g2, u, u', rfl, g3, u2, u2', rfl, g4, u3, u3', rfl, g5, u4, u4', rfl, g6, gf⟩ := ty_struct (ts := [3, 3, 2, 2, 9, 23]) Tryz.underlying66 rfl h2
  simp only [bulkL_append] at hb
  obtain ⟨n0, rfl, w0⟩ := ty_int Tryz.underlying2 h1
  obtain ⟨n1, rfl, w1⟩ := ty_int Tryz.underlying3 g1
  obtain ⟨n2, rfl, w2⟩ := ty_int Tryz.underlying3 g2
  obtain ⟨n3, rfl, w3⟩ := ty_int Tryz.underlying2 g3
  obtain ⟨n4, rfl, w4⟩ := ty_int Tryz.underlying2 g4
  obtain ⟨tag, rfl⟩ := ty_str Tryz.underlying9 g5
  obtain ⟨av, la, args, rfl, ka, ra, ba, xa⟩ := ty_valsz g6 (by omega)
  obtain ⟨n5, rfl, w5⟩ := ty_int Tryz.underlying35 h3
  obtain ⟨n6, rfl, w6⟩ := ty_int Tryz.underlying3 h4
  obtain ⟨n7, rfl, w7⟩ := ty_int Tryz.underlying3 h5
  obtain ⟨xv, es, k, rfl, _, hk, he, hbe, hv⟩ := ty_slice Tryz.underlying34 h6
  obtain ⟨n8, rfl, w8⟩ := ty_int Tryz.underlying3 h7
  obtain ⟨sv, ls, state, rfl, ks, rs, bs, xs⟩ := ty_valsz h8 (by omega)
  obtain ⟨n9, rfl, w9⟩ := ty_int Tryz.underlying2 h9
  simp only [TyVs] at hf gf; subst hf; subst gf
  have p1 := sl_bulk hv
  have hex : ∀ c ∈ es, ∃ e : EffT, (∀ H, EffZ NoZ H c e) ∧ I64 e.1 ∧ I64 e.2.1 ∧ (∀ a ∈ e.2.2.2, RngV a) ∧ e.2.2.2.length ≤ 2097152 ∧ (cEff.enc e).length ≤ 20 * bulkL c := fun c hc => ty_effz (he c hc) (by have := bulk_mem hc; omega)
  obtain ⟨effs, k1, k2, k3⟩ := effs_ex hex
  have hl : ∀ c ∈ es, c.length = 4 ∧ allOne c = true := fun c hc => by
    obtain ⟨e, h, _⟩ := hex c hc
    exact (h Heap.empty).shape
  have hn := sl_len hl (by decide) hbe
  have hel := (k1 H).1
  have w5' : 0 ≤ n5 ∧ n5 ≤ 255 := by
    simp only [Lit.wf, Bool.and_eq_true, decide_eq_true_eq] at w5
    exact ⟨w5.1, w5.2⟩
  refine ⟨([n0, n1, n2, n3, n4, n5, n6, n7, n8, n9], tag, args, state, effs), ⟨n0, n1, n2, n3, n4, n5, n6, n7, n8, n9, tag, args, state, effs, av, sv, xv, la, ls, es, rfl, rfl, w5'.1, (ka H).1, (ka H).2, (ks H).1, (ks H).2, ⟨sl_rs hv hl H, sl_noz hv⟩, k1 H⟩, ⟨fun x hx => ?_, ra, rs, fun e he => (k2 e he).1⟩, ⟨ba, bs, ?_, fun e he => (k2 e he).2⟩, ?_⟩
  · simp only [List.mem_cons, List.not_mem_nil, or_false] at hx
    rcases hx with rfl | rfl | rfl | rfl | rfl | rfl | rfl | rfl | rfl | rfl
    · exact wf64 w0
    · exact wf64 w1
    · exact wf64 w2
    · exact wf64 w3
    · exact wf64 w4
    · exact ⟨by omega, by omega⟩
    · exact wf64 w6
    · exact wf64 w7
    · exact wf64 w8
    · exact wf64 w9
  · show effs.length ≤ 2097152
    simp only [bulkL] at hn hb
    omega
  · have q1 := encL_i64 [n0, n1, n2, n3, n4, n5, n6, n7, n8, n9]
    have q3 := (encU_len 9 tag.length).2
    have q4 := (encU_len 9 args.length).2
    have q5 := (encU_len 9 state.length).2
    have q6 := (encU_len 9 effs.length).2
    rw [enc_rec, enc_tag, enc_vals, enc_vals]
    simp only [List.length_append, List.length_map, bulkL, bulkV, bulkL_append, List.length_cons, List.length_nil] at p1 q1 ⊢
    omega
end AmT
