/-
  The reader of speculative code: a number up to the most, a number from -1 on. Conditions: the reader lies apart from its bytes.
-/
import Derived.Test.YtdeehlcjhmjofaaGreatDoorGetI
namespace AmT
open Go Am
set_option maxRecDepth 100000
set_option maxHeartbeats 4000000
set_option linter.unusedSimpArgs false
set_option linter.unusedVariables false
variable {O : CallF}

structure OffRd (O : CallF) : Prop where
  gu : ∀ a h, O 110 a h = none
  gi : ∀ a h, O 152 a h = none
  up : ∀ a h, O 65 a h = none
  nu : ∀ a h, O 57 a h = none
  ex : ∀ a h, O 108 a h = none
  ea : ∀ a h, O 58 a h = none
  li : ∀ a h, O 63 a h = none
  l1 : ∀ a h, O 109 a h = none
  st : ∀ a h, O 60 a h = none
  rd : ∀ a h, O 27 a h = none
  r1 : ∀ a h, O 59 a h = none
  r2 : ∀ a h, O 61 a h = none
  r21 : ∀ a h, O 62 a h = none
  r3 : ∀ a h, O 64 a h = none

theorem upTo_ok (hO : OffRd O) {hb h0 : Heap} {r : Nat} {b : V} {bs : List Nat} {σ : Option (List Nat)} (hB : RdB hb b bs) (hs : RdSt hb h0 r b bs σ) {most : Nat} (hm : most < 18446744073709551616) (hm2 : most < 9223372036854775808) :
    WPc tab.get O 65 [.ptr r 0 0 3, .int .u64 (.ofNat most)] h0 (fun v h' => ∃ n : Nat, v = .int .i64 (.ofNat n) ∧ n ≤ most ∧ (∀ x l, aft (cNum most hm).dec σ = some (x, l) → Int.ofNat n = x) ∧ (aft (cNum most hm).dec σ = none → n = 0) ∧ RdSt hb h' r b bs (rst (aft (cNum most hm).dec σ)) ∧ ExtX [r] h0 h') := by
  refine w_fn' (hO.up _ _) rfl rfl (by simp only [c65, initV, nth] <;> rfl) ?_
  cases σ with
  | none =>
    have hs0 := hs
    obtain ⟨h1, h2, a, h3⟩ := hs
    repeat' (first | refine w_seq ?_ | refine w_reg ?_ | refine w_end (by simp only [outsV, nth, setV, List.take_succ_cons, List.take_zero, List.length_cons, List.length_nil, Nat.zero_add, Nat.reduceAdd] <;> rfl) ?_ | refine w_rf rfl (by assumption) (by rfl) (by rfl) (by rfl) ?_ | refine w_opk rfl rfl ?_ | refine w_cond_t rfl ?_ | refine w_ret ?_ | refine w_rt rfl ?_)
    exact ⟨0, rfl, Nat.zero_le _, fun x l e => (by cases e), fun _ => rfl, hs0, ExtX.refl _ _⟩
  | some l =>
    obtain ⟨h1, h2, a, ha, rfl, h3⟩ := hs
    have hrs := hB.rs.ext0 h2
    repeat' (first | refine w_seq ?_ | refine w_reg ?_ | refine w_end (by simp only [outsV, nth, setV, List.take_succ_cons, List.take_zero, List.length_cons, List.length_nil, Nat.zero_add, Nat.reduceAdd] <;> rfl) ?_ | refine w_rf rfl (by assumption) (by rfl) (by rfl) (by rfl) ?_ | refine w_opk rfl rfl ?_ | refine w_cond_f rfl ?_ | refine w_skip ?_)
    refine w_call rfl ((getU_ok hO.gu hrs hB.by_ ha hB.len).mono fun v h1' ⟨hv, e1⟩ => ?_)
    subst e1
    cases hd : dU 9 true (bs.drop a) with
    | none =>
      have hN : aft (cNum most hm).dec (some (bs.drop a)) = none := by
        show dMap _ (dU 9 true (bs.drop a)) = none
        rw [hd]; rfl
      rw [hd] at hv
      obtain ⟨e, he, rfl⟩ := hv
      repeat' (first | refine w_seq ?_ | refine w_reg ?_ | refine w_end (by simp only [outsV, nth, setV, List.take_succ_cons, List.take_zero, List.length_cons, List.length_nil, Nat.zero_add, Nat.reduceAdd] <;> rfl) ?_ | refine w_off rfl ?_ | refine w_on rfl ?_ | refine w_gtrN rfl rfl (fun hc => ?_) (fun hc => ?_) | refine w_neq rfl rfl (fun hc => ?_) (fun hc => ?_) | refine w_opk rfl rfl ?_ | refine w_cond_t rfl ?_ | refine w_cond_f rfl ?_ | refine w_skip ?_)
      · refine w_store rfl rfl h3 rfl rfl (by decide) (by simp) fun h4 k1 k2 k3 => ?_
        repeat' (first | refine w_seq ?_ | refine w_reg ?_ | refine w_end (by simp only [outsV, nth, setV, List.take_succ_cons, List.take_zero, List.length_cons, List.length_nil, Nat.zero_add, Nat.reduceAdd] <;> rfl) ?_ | refine w_opk rfl rfl ?_ | refine w_ret ?_ | refine w_rt rfl ?_)
        refine ⟨0, rfl, Nat.zero_le _, fun x l e => (by rw [hN] at e; cases e), fun _ => rfl, ?_, k2⟩
        rw [hN]
        exact ⟨h1, h2.step k2 (fun j hj => by simp at hj; exact .inr (by omega)), a, k1⟩
      all_goals exact absurd (by assumption) he
    | some y =>
      obtain ⟨m, r'⟩ := y
      rw [hd] at hv
      obtain ⟨rfl, hm64, hrl⟩ := hv
      obtain ⟨hr1, hr2⟩ := dU_drop hB.by_ ha hd
      have hD : aft (cNum most hm).dec (some (bs.drop a)) = if m ≤ most then some (Int.ofNat m, r') else none := by
        show dMap _ (dU 9 true (bs.drop a)) = _
        rw [hd]
        simp only [dMap]
        by_cases hc : m ≤ most
        · rw [if_pos hc, if_pos hc]
        · rw [if_neg hc, if_neg hc]
      repeat' (first | refine w_seq ?_ | refine w_reg ?_ | refine w_end (by simp only [outsV, nth, setV, List.take_succ_cons, List.take_zero, List.length_cons, List.length_nil, Nat.zero_add, Nat.reduceAdd] <;> rfl) ?_ | refine w_off rfl ?_ | refine w_on rfl ?_ | refine w_gtrN rfl rfl (fun hc => ?_) (fun hc => ?_) | refine w_neqN rfl rfl (fun hc => ?_) (fun hc => ?_) | refine w_opk rfl rfl ?_ | refine w_cond_t rfl ?_ | refine w_cond_f rfl ?_ | refine w_skip ?_)
      · exact absurd rfl (by assumption)
      · have hc : most < m := by assumption
        have hN := hD
        rw [if_neg (by omega)] at hN
        refine w_store rfl rfl h3 rfl rfl (by decide) (by simp) fun h4 k1 k2 k3 => ?_
        repeat' (first | refine w_seq ?_ | refine w_reg ?_ | refine w_end (by simp only [outsV, nth, setV, List.take_succ_cons, List.take_zero, List.length_cons, List.length_nil, Nat.zero_add, Nat.reduceAdd] <;> rfl) ?_ | refine w_opk rfl rfl ?_ | refine w_ret ?_ | refine w_rt rfl ?_)
        refine ⟨0, rfl, Nat.zero_le _, fun x l e => (by rw [hN] at e; cases e), fun _ => rfl, ?_, k2⟩
        rw [hN]
        exact ⟨h1, h2.step k2 (fun j hj => by simp at hj; exact .inr (by omega)), a, k1⟩
      · have hc : m ≤ most := by assumption
        rw [if_pos hc] at hD
        refine w_store rfl rfl h3 rfl rfl (by decide) (by simp) fun h4 k1 k2 k3 => ?_
        repeat' (first | refine w_seq ?_ | refine w_reg ?_ | refine w_end (by simp only [outsV, nth, setV, List.take_succ_cons, List.take_zero, List.length_cons, List.length_nil, Nat.zero_add, Nat.reduceAdd] <;> rfl) ?_ | refine w_opq rfl rfl ?_)
        refine w_toI (b := .ofNat m) rfl (wrap_i64_nat (by omega)) ?_
        repeat' (first | refine w_end (by simp only [outsV, nth, setV, List.take_succ_cons, List.take_zero, List.length_cons, List.length_nil, Nat.zero_add, Nat.reduceAdd] <;> rfl) ?_ | refine w_opk rfl rfl ?_ | refine w_ret ?_ | refine w_rt rfl ?_)
        refine ⟨m, rfl, hc, fun x l e => (by rw [hD] at e; cases e; rfl), fun e => (by rw [hD] at e; cases e), ?_, k2⟩
        rw [hD]
        exact ⟨h1, h2.step k2 (fun j hj => by simp at hj; exact .inr (by omega)), bs.length - r'.length, by omega, hr1, k1⟩

theorem number_ok (hO : OffRd O) {hb h0 : Heap} {r : Nat} {b : V} {bs : List Nat} {σ : Option (List Nat)} (hB : RdB hb b bs) (hs : RdSt hb h0 r b bs σ) :
    WPc tab.get O 57 [.ptr r 0 0 3] h0 (fun v h' => ∃ n : Nat, v = .int .i64 (.ofNat n) ∧ (∀ x l, aft cN.dec σ = some (x, l) → Int.ofNat n = x) ∧ RdSt hb h' r b bs (rst (aft cN.dec σ)) ∧ ExtX [r] h0 h') := by
  refine w_fn' (hO.nu _ _) rfl rfl (by simp only [c57, initV, nth] <;> rfl) ?_
  repeat' (first | refine w_seq ?_ | refine w_reg ?_ | refine w_end (by simp only [outsV, nth, setV, List.take_succ_cons, List.take_zero, List.length_cons, List.length_nil, Nat.zero_add, Nat.reduceAdd] <;> rfl) ?_ | refine w_opk rfl rfl ?_)
  refine w_callA [.ptr r 0 0 3, .int .u64 (.ofNat 1048576)] rfl ((upTo_ok hO hB hs (most := 1048576) (by decide) (by decide)).mono fun v h1 ⟨n, e, _, k1, _, k2, k3⟩ => ?_)
  subst e
  repeat' (first | refine w_end (by simp only [outsV, nth, setV, List.take_succ_cons, List.take_zero, List.length_cons, List.length_nil, Nat.zero_add, Nat.reduceAdd] <;> rfl) ?_ | refine w_opk rfl rfl ?_ | refine w_ret ?_ | refine w_rt rfl ?_)
  exact ⟨n, rfl, k1, k2, k3⟩

theorem exit_ok (hO : OffRd O) {hb h0 : Heap} {r : Nat} {b : V} {bs : List Nat} {σ : Option (List Nat)} (hB : RdB hb b bs) (hs : RdSt hb h0 r b bs σ) :
    WPc tab.get O 108 [.ptr r 0 0 3] h0 (fun v h' => ∃ n : Int, v = .int .i64 n ∧ (∀ x l, aft (cExit 1048576 (by decide)).dec σ = some (x, l) → n = x) ∧ RdSt hb h' r b bs (rst (aft (cExit 1048576 (by decide)).dec σ)) ∧ ExtX [r] h0 h') := by
  refine w_fn' (hO.ex _ _) rfl rfl (by simp only [c108, initV, nth] <;> rfl) ?_
  cases σ with
  | none =>
    have hs0 := hs
    obtain ⟨h1, h2, a, h3⟩ := hs
    repeat' (first | refine w_seq ?_ | refine w_reg ?_ | refine w_end (by simp only [outsV, nth, setV, List.take_succ_cons, List.take_zero, List.length_cons, List.length_nil, Nat.zero_add, Nat.reduceAdd] <;> rfl) ?_ | refine w_rf rfl (by assumption) (by rfl) (by rfl) (by rfl) ?_ | refine w_opk rfl rfl ?_ | refine w_cond_t rfl ?_ | refine w_ret ?_ | refine w_rt rfl ?_)
    exact ⟨_, rfl, fun x l e => (by cases e), hs0, ExtX.refl _ _⟩
  | some l =>
    obtain ⟨h1, h2, a, ha, rfl, h3⟩ := hs
    have hrs := hB.rs.ext0 h2
    repeat' (first | refine w_seq ?_ | refine w_reg ?_ | refine w_end (by simp only [outsV, nth, setV, List.take_succ_cons, List.take_zero, List.length_cons, List.length_nil, Nat.zero_add, Nat.reduceAdd] <;> rfl) ?_ | refine w_rf rfl (by assumption) (by rfl) (by rfl) (by rfl) ?_ | refine w_opk rfl rfl ?_ | refine w_cond_f rfl ?_ | refine w_skip ?_)
    refine w_call rfl ((getI_ok hO.gu hO.gi hrs hB.by_ ha hB.len).mono fun v h1' ⟨hv, e1⟩ => ?_)
    subst e1
    cases hd : dU 9 true (bs.drop a) with
    | none =>
      have hN : aft (cExit 1048576 (by decide)).dec (some (bs.drop a)) = none := by
        show dMap _ (dU 9 true (bs.drop a)) = none
        rw [hd]; rfl
      rw [hd] at hv
      obtain ⟨e, he, rfl⟩ := hv
      repeat' (first | refine w_seq ?_ | refine w_reg ?_ | refine w_end (by simp only [outsV, nth, setV, List.take_succ_cons, List.take_zero, List.length_cons, List.length_nil, Nat.zero_add, Nat.reduceAdd] <;> rfl) ?_ | refine w_off rfl ?_ | refine w_on rfl ?_ | refine w_gtrN rfl rfl (fun hc => ?_) (fun hc => ?_) | refine w_lss rfl rfl (fun hc => ?_) (fun hc => ?_) | refine w_neq rfl rfl (fun hc => ?_) (fun hc => ?_) | refine w_opk rfl rfl ?_ | refine w_cond_t rfl ?_ | refine w_cond_f rfl ?_ | refine w_skip ?_)
      · refine w_store rfl rfl h3 rfl rfl (by decide) (by simp) fun h4 k1 k2 k3 => ?_
        repeat' (first | refine w_seq ?_ | refine w_reg ?_ | refine w_end (by simp only [outsV, nth, setV, List.take_succ_cons, List.take_zero, List.length_cons, List.length_nil, Nat.zero_add, Nat.reduceAdd] <;> rfl) ?_ | refine w_opk rfl rfl ?_ | refine w_ret ?_ | refine w_rt rfl ?_)
        refine ⟨_, rfl, fun x l e => (by rw [hN] at e; cases e), ?_, k2⟩
        rw [hN]
        exact ⟨h1, h2.step k2 (fun j hj => by simp at hj; exact .inr (by omega)), a, k1⟩
      all_goals exact absurd (by assumption) he
    | some y =>
      obtain ⟨m, r'⟩ := y
      rw [hd] at hv
      obtain ⟨rfl, hrl⟩ := hv
      obtain ⟨hr1, hr2⟩ := dU_drop hB.by_ ha hd
      have hD : aft (cExit 1048576 (by decide)).dec (some (bs.drop a)) = if -1 ≤ zag m ∧ zag m ≤ Int.ofNat 1048576 then some (zag m, r') else none := by
        show dMap _ (dU 9 true (bs.drop a)) = _
        rw [hd]
        simp only [dMap]
        by_cases hc : -1 ≤ zag m ∧ zag m ≤ Int.ofNat 1048576
        · rw [if_pos hc, if_pos hc]
        · rw [if_neg hc, if_neg hc]
      generalize zag m = z at *
      repeat' (first | refine w_seq ?_ | refine w_reg ?_ | refine w_end (by simp only [outsV, nth, setV, List.take_succ_cons, List.take_zero, List.length_cons, List.length_nil, Nat.zero_add, Nat.reduceAdd] <;> rfl) ?_ | refine w_off rfl ?_ | refine w_on rfl ?_ | refine w_neqN rfl rfl (fun hc => ?_) (fun hc => ?_) | refine w_lss rfl rfl (fun hc => ?_) (fun hc => ?_) | refine w_gtr rfl rfl (fun hc => ?_) (fun hc => ?_) | refine w_opk rfl rfl ?_ | refine w_cond_t rfl ?_ | refine w_cond_f rfl ?_ | refine w_skip ?_)
      · exact absurd rfl (by assumption)
      · have hN := hD
        rw [if_neg (by rintro ⟨q1, q2⟩; have hc : z < -1 := by assumption
                       omega)] at hN
        refine w_store rfl rfl h3 rfl rfl (by decide) (by simp) fun h4 k1 k2 k3 => ?_
        repeat' (first | refine w_seq ?_ | refine w_reg ?_ | refine w_end (by simp only [outsV, nth, setV, List.take_succ_cons, List.take_zero, List.length_cons, List.length_nil, Nat.zero_add, Nat.reduceAdd] <;> rfl) ?_ | refine w_opk rfl rfl ?_ | refine w_ret ?_ | refine w_rt rfl ?_)
        refine ⟨_, rfl, fun x l e => (by rw [hN] at e; cases e), ?_, k2⟩
        rw [hN]
        exact ⟨h1, h2.step k2 (fun j hj => by simp at hj; exact .inr (by omega)), a, k1⟩
      · have hN := hD
        rw [if_neg (by rintro ⟨q1, q2⟩; have hc : Int.ofNat 1048576 < z := by assumption
                       omega)] at hN
        refine w_store rfl rfl h3 rfl rfl (by decide) (by simp) fun h4 k1 k2 k3 => ?_
        repeat' (first | refine w_seq ?_ | refine w_reg ?_ | refine w_end (by simp only [outsV, nth, setV, List.take_succ_cons, List.take_zero, List.length_cons, List.length_nil, Nat.zero_add, Nat.reduceAdd] <;> rfl) ?_ | refine w_opk rfl rfl ?_ | refine w_ret ?_ | refine w_rt rfl ?_)
        refine ⟨_, rfl, fun x l e => (by rw [hN] at e; cases e), ?_, k2⟩
        rw [hN]
        exact ⟨h1, h2.step k2 (fun j hj => by simp at hj; exact .inr (by omega)), a, k1⟩
      · rw [if_pos ⟨by assumption, by assumption⟩] at hD
        refine w_store rfl rfl h3 rfl rfl (by decide) (by simp) fun h4 k1 k2 k3 => ?_
        repeat' (first | refine w_seq ?_ | refine w_reg ?_ | refine w_end (by simp only [outsV, nth, setV, List.take_succ_cons, List.take_zero, List.length_cons, List.length_nil, Nat.zero_add, Nat.reduceAdd] <;> rfl) ?_ | refine w_opk rfl rfl ?_ | refine w_ret ?_ | refine w_rt rfl ?_)
        refine ⟨z, rfl, fun x l e => (by rw [hD] at e; cases e; rfl), ?_, k2⟩
        rw [hD]
        exact ⟨h1, h2.step k2 (fun j hj => by simp at hj; exact .inr (by omega)), bs.length - r'.length, by omega, hr1, k1⟩
end AmT
