/-
  value.Right: which values may be. Conditions: numbers are of 64 bits; the cells that count lie apart from the value.
-/
import Derived.Test.YtncbfghlokfmeaaGreatDoorW
namespace AmT
open Go Am
set_option maxRecDepth 100000
set_option maxHeartbeats 8000000
set_option linter.unusedSimpArgs false
set_option linter.unusedVariables false
variable {O : CallF}

structure OffVR (O : CallF) : Prop where
  r1 : ∀ a h, O 115 a h = none
  ri : ∀ a h, O 77 a h = none

/-- What is known behind so many parts of a tuple. -/
def RtI (C0 : Prop) (lv left : Nat) (l : List Val) (j : Nat) (b : Bool) (x : Int) : Prop :=
  (b = true → C0 ∧ okVs lv (l.take j) ∧ pcss (l.take j) ≤ left ∧ x = Int.ofNat (left - pcss (l.take j))) ∧ (C0 → okVs lv (l.take j) → pcss (l.take j) ≤ left → b = true)

theorem okVs_snoc {lv : Nat} {a : Val} : ∀ {l : List Val}, okVs lv (l ++ [a]) ↔ okVs lv l ∧ okV lv a
  | [] => by simp only [List.nil_append, okVs, and_true, true_and]
  | b :: l => by simp only [List.cons_append, okVs, okVs_snoc, and_assoc]
theorem pcss_snoc {a : Val} : ∀ {l : List Val}, pcss (l ++ [a]) = pcss l + pcs a
  | [] => by simp only [List.nil_append, pcss]; omega
  | b :: l => by simp only [List.cons_append, pcss, pcss_snoc]; omega

theorem okV_ar {lv : Nat} {k n : Int} {s : List UInt8} {l : List Val} (h1 : -9223372036854775808 ≤ n) (h2 : n < 9223372036854775808) (h4 : k ≠ 4) :
    okV lv (.mk k n s l) ↔ 0 < lv ∧ (k = 1 ∧ s.length = 0 ∧ l.length = 0 ∨ k = 2 ∧ (n = 0 ∨ n = 1) ∧ s.length = 0 ∧ l.length = 0 ∨ k = 3 ∧ n = 0 ∧ s.length ≤ 4096 ∧ l.length = 0 ∨ k = 5 ∧ 0 ≤ n ∧ s.length = 0 ∧ l.length = 0) := by
  unfold okV
  simp only [List.length_eq_zero_iff]
  constructor
  · rintro ⟨h, h3⟩
    refine ⟨h, ?_⟩
    rcases h3 with ⟨a, _, _, b, c⟩ | ⟨a, b, c, d⟩ | ⟨a, b, c, d⟩ | ⟨a, _⟩ | ⟨a, b, _, c, d⟩
    · exact .inl ⟨a, b, c⟩
    · exact .inr (.inl ⟨a, b, c, d⟩)
    · exact .inr (.inr (.inl ⟨a, b, c, d⟩))
    · exact absurd a h4
    · exact .inr (.inr (.inr ⟨a, b, c, d⟩))
  · rintro ⟨h, h3⟩
    refine ⟨h, ?_⟩
    rcases h3 with ⟨a, b, c⟩ | ⟨a, b, c, d⟩ | ⟨a, b, c, d⟩ | ⟨a, b, c, d⟩
    · exact .inl ⟨a, h1, h2, b, c⟩
    · exact .inr (.inl ⟨a, b, c, d⟩)
    · exact .inr (.inr (.inl ⟨a, b, c, d⟩))
    · exact .inr (.inr (.inr (.inr ⟨a, b, h2, c, d⟩)))

/-- A value without parts, by its cells' numbers. -/
def PlainV (lv left : Nat) (k n : Int) (sl ll : Nat) : Prop :=
  Int.ofNat 0 ≤ (left : Int) - 1 ∧ 0 < lv ∧ ll = 0 ∧ (k = Int.ofNat 1 ∧ sl = 0 ∨ k = Int.ofNat 2 ∧ (n = Int.ofNat 0 ∨ n = Int.ofNat 1) ∧ sl = 0 ∨ k = Int.ofNat 3 ∧ n = Int.ofNat 0 ∧ sl ≤ 4096 ∨ k = Int.ofNat 5 ∧ Int.ofNat 0 ≤ n ∧ sl = 0)
theorem plainV {lv left : Nat} {k n : Int} {s : List UInt8} {l : List Val} {ll : Nat} (hll : ll = l.length) (h1 : -9223372036854775808 ≤ n) (h2 : n < 9223372036854775808) (h4 : k ≠ 4) :
    (PlainV lv left k n s.length ll → okV lv (.mk k n s l) ∧ pcs (.mk k n s l) ≤ left ∧ (left : Int) - 1 = Int.ofNat (left - pcs (.mk k n s l))) ∧
    (okV lv (.mk k n s l) → pcs (.mk k n s l) ≤ left → PlainV lv left k n s.length ll) := by
  subst hll
  have z0 : Int.ofNat 0 = 0 := rfl
  have z1 : Int.ofNat 1 = 1 := rfl
  have z2 : Int.ofNat 2 = 2 := rfl
  have z3 : Int.ofNat 3 = 3 := rfl
  have z5 : Int.ofNat 5 = 5 := rfl
  have hpl := pcss_len l
  have hp0 : l.length = 0 → pcss l = 0 := fun e => by rw [List.length_eq_zero_iff.1 e]; rfl
  rw [okV_ar h1 h2 h4]
  have e3 : Int.ofNat (left - (1 + pcss l)) = ((left - (1 + pcss l) : Nat) : Int) := rfl
  simp only [PlainV, pcs, e3, z0, z1, z2, z3, z5]
  constructor
  · rintro ⟨g1, g2, g3, g4⟩
    have := hp0 g3
    exact ⟨⟨g2, by omega⟩, by omega, by omega⟩
  · rintro ⟨g1, g2⟩ g3
    exact ⟨by omega, by omega, by omega, by omega⟩

theorem vr_plain (hO : OffVR O) {Z : Nat → Prop} {k n : Int} {s : List UInt8} {l : List Val} {h0 : Heap} {c : List V} {i2 i3 lv left : Nat} (hv : VaR Z h0 (.mk k n s l) c) (ht : RngV (.mk k n s l)) (h2 : Own h0 i2 [.int .i64 (.ofNat left)]) (h3 : Own h0 i3 [.fn 115 [] [.ptr i2 0 0 1, .ptr i3 0 0 1]]) (hne : i2 ≠ i3) (hZ : ¬ Z i2) (hl : left ≤ 256) (hlv : lv ≤ 16) (hk4 : k ≠ 4) :
    WPc tab.get O 115 [.agg c, .int .i64 (.ofNat lv), .ptr i2 0 0 1, .ptr i3 0 0 1] h0 (fun v h' => ∃ b x, v = .bool b ∧ Own h' i2 [.int .i64 x] ∧ ExtX [i2] h0 h' ∧ (b = true → okV lv (.mk k n s l) ∧ pcs (.mk k n s l) ≤ left ∧ x = Int.ofNat (left - pcs (.mk k n s l))) ∧ (okV lv (.mk k n s l) → pcs (.mk k n s l) ≤ left → b = true)) := by
  refine w_fn' (hO.r1 _ _) rfl rfl (by simp only [c115, initV, nth] <;> rfl) ?_
  have hs := hv.shape
  have hi2 := h2.1
  refine w_seq (w_reg (w_box rfl hs.1 hs.2 fun i5 h1 hB hiB hE1 => ?_))
  replace hB : Own h1 i5 c := hB
  replace hv := hv.ext0 hE1
  replace h2 := h2.ext0 hE1
  replace h3 := h3.ext0 hE1
  have m1 := hE1.1
  unfold VaR at hv
  obtain ⟨tv, lc, rfl, rt, hl2⟩ := hv
  have hlen := hl2.len
  have r1 := rt.1
  unfold RngV at ht
  repeat' (first | refine w_seq ?_ | refine w_reg ?_ | refine w_e ?_ | refine w_fl rfl (by assumption) (by rfl) (by rfl) (by rfl) ?_ | refine w_opk rfl rfl ?_)
  have hw : wrapK .i64 (Int.ofNat left - Int.ofNat 1) = (left : Int) - 1 := by
    rw [wrapK_eq]
    exact wrap_i64_of (by have : Int.ofNat left - Int.ofNat 1 = (left : Int) - 1 := rfl; omega) (by have : Int.ofNat left - Int.ofNat 1 = (left : Int) - 1 := rfl; omega)
  rw [hw]
  refine w_store rfl rfl h2 rfl rfl (by decide) (by simp) fun h6 k2 y6 z6 => ?_
  replace k2 : Own h6 i2 [.int .i64 ((left : Int) - 1)] := k2
  have hB6 := hB.ext y6 (by simp; omega)
  have h36 := h3.ext y6 (by simp; exact fun e => hne e.symm)
  have r6 := r1.ext y6 fun id off len ver e f hv => by
    simp only [List.mem_singleton]
    exact fun hm => hZ (hm ▸ rt.2 id (by rw [hv]; simp [slIds]))
  have E6 : ExtX [i2] h0 h6 := (hE1.mono (by simp)).trans y6
  clear h2 hB r1 h3 hE1 hs
  have hpl := pcss_len l
  have hp0 : l.length = 0 → pcss l = 0 := fun e => by rw [List.length_eq_zero_iff.1 e]; rfl
  have hpv := fun s => plainV (lv := lv) (left := left) (s := s) hlen ht.1 ht.2.1 hk4
  clear hpl hp0
  rcases s with _ | ⟨s0, s1⟩
  all_goals (repeat' (first | refine w_seq ?_ | refine w_reg ?_ | refine w_e ?_ | refine w_off rfl ?_ | refine w_rf rfl (by assumption) (by rfl) (by rfl) (by rfl) ?_ | refine w_rfg rfl rfl (by assumption) (by rfl) (by rfl) (by rfl) (by rfl) ?_ | refine w_fl rfl (by assumption) (by rfl) (by rfl) (by rfl) ?_ | refine w_on rfl ?_ | refine w_len rfl (by assumption) ?_ | refine w_gtrN rfl rfl (fun hc => ?_) (fun hc => ?_) | refine w_eqlN rfl rfl (fun hc => ?_) (fun hc => ?_) | refine w_geq rfl rfl (fun hc => ?_) (fun hc => ?_) | refine w_opk rfl rfl ?_))
  all_goals refine w_block ?_
  all_goals (repeat' (first | refine w_seq ?_ | refine w_reg ?_ | refine w_e ?_ | refine w_off rfl ?_ | refine w_rf rfl (by assumption) (by rfl) (by rfl) (by rfl) ?_ | refine w_rfg rfl rfl (by assumption) (by rfl) (by rfl) (by rfl) (by rfl) ?_ | refine w_on rfl ?_ | refine w_len rfl (by assumption) ?_ | refine w_leqN rfl rfl (fun hc => ?_) (fun hc => ?_) | refine w_eqlN rfl rfl (fun hc => ?_) (fun hc => ?_) | refine w_geq rfl rfl (fun hc => ?_) (fun hc => ?_) | refine w_eql rfl rfl (fun hc => ?_) (fun hc => ?_) | refine w_opk rfl rfl ?_ | refine w_cond_t rfl ?_ | refine w_cond_f rfl ?_ | refine w_skip ?_ | refine w_ret ?_ | refine w_rt rfl ?_))
  all_goals first
    | exact absurd (by assumption) hk4
    | skip
  all_goals refine ⟨_, _, rfl, k2, E6, fun hb => ?_, fun hok hp => ?_⟩
  all_goals first
    | (cases hb; done)
    | rfl
    | exact (hpv _).1 ⟨by assumption, by assumption, by assumption, by simp_all⟩
    | (have hq := (hpv _).2 hok hp; unfold PlainV at hq; exfalso; simp_all; done)
    | (have hq := (hpv _).2 hok hp; unfold PlainV at hq; exfalso; simp_all; omega)
    | skip
end AmT
