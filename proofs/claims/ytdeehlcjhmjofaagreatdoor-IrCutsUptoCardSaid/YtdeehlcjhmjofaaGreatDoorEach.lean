/-
  The reader's loop: what is done as often as a number tells; lists of numbers. Conditions: what is done reads one thing, and leaves the reader as it is behind it.
-/
import Derived.Test.YtdeehlcjhmjofaaGreatDoorRd
namespace AmT
open Go Am
set_option maxRecDepth 100000
set_option maxHeartbeats 4000000
set_option linter.unusedSimpArgs false
set_option linter.unusedVariables false
variable {O : CallF}

def preL {α : Type} (ax : List α) : Option (List α × List Nat) → Option (List α × List Nat)
  | none => none
  | some (xs, r) => some (ax ++ xs, r)

theorem preL_nil {α : Type} (o : Option (List α × List Nat)) : preL [] o = o := by
  cases o with
  | none => rfl
  | some y => obtain ⟨a, b⟩ := y; rfl

theorem each_ok (hO : OffRd O) {α : Type} (c : Cod α) {hb h0 : Heap} {r : Nat} {b : V} {bs : List Nat} {σ : Option (List Nat)} (hB : RdB hb b bs) (hs : RdSt hb h0 r b bs σ) {most : Nat} (hm : most < 18446744073709551616) (hm2 : most < 9223372036854775808) {g : Nat} {caps : List V}
    (J : Heap → List α → Prop) (hJ0 : J h0 []) (hJ : ∀ h h' ax, r < h.n → J h ax → ExtX [r] h h' → J h' ax)
    (hdo : ∀ h ax τ, RdSt hb h r b bs τ → J h ax → ax.length < most → WPc tab.get O g caps h (fun _ h' => ∃ x, RdSt hb h' r b bs (rst (aft c.dec τ)) ∧ J h' (ax ++ [x]) ∧ ∀ y l, aft c.dec τ = some (y, l) → x = y)) :
    WPc tab.get O 58 [.ptr r 0 0 3, .int .u64 (.ofNat most), .fn g [] caps] h0 (fun _ h' => ∃ ax, RdSt hb h' r b bs (rst (aft (cList c most hm).dec σ)) ∧ J h' ax ∧ ∀ l r', aft (cList c most hm).dec σ = some (l, r') → ax = l) := by
  refine w_fn' (hO.ea _ _) rfl rfl (by simp only [c58, initV, nth] <;> rfl) ?_
  repeat' (first | refine w_seq ?_ | refine w_reg ?_ | refine w_opk rfl rfl ?_)
  refine w_call rfl ((upTo_ok hO hB hs hm hm2).mono fun v h1 ⟨n0, e, hn0, k1, k0, k2, k3⟩ => ?_)
  subst e
  repeat' (first | refine w_end (by simp only [outsV, nth, setV, List.take_succ_cons, List.take_zero, List.length_cons, List.length_nil, Nat.zero_add, Nat.reduceAdd] <;> rfl) ?_ | refine w_opk rfl rfl ?_)
  have hJ1 := hJ _ _ _ hs.base.2.2 hJ0 k3
  have hT : aft (cList c most hm).dec σ = (match aft (cNum most hm).dec σ with
    | none => none
    | some (n, l) => dRep c.dec n0 l) := by
    cases σ with
    | none => rfl
    | some l =>
      show (match (cNum most hm).dec l with
        | none => none
        | some (n, r) => dRep c.dec n.toNat r) = _
      cases hd : (cNum most hm).dec l with
      | none => simp only [aft, hd]
      | some y =>
        obtain ⟨n, l'⟩ := y
        have := k1 n l' hd
        subst this
        simp only [aft, hd]
        rfl
  generalize hTT : aft (cList c most hm).dec σ = total at *
  refine w_block (w_loop (fun m vs h => ∃ ax τ b4, vs = [.ptr r 0 0 3, .int .u64 (.ofNat most), .fn g [] caps, .int .i64 (.ofNat m), b4] ∧ RdSt hb h r b bs τ ∧ J h ax ∧ ax.length + m ≤ most ∧ (τ = none → total = none) ∧ ∀ l0, τ = some l0 → total = preL ax (dRep c.dec m l0)) ?_ n0 _ _ ⟨[], _, _, rfl, k2, hJ1, by simpa using hn0, ?_, ?_⟩)
  · rintro m vs h ⟨ax, τ, b4, rfl, hr, hJa, hlen, hN, hS⟩
    have hfin : τ = none ∨ m = 0 → ∃ ax, RdSt hb h r b bs (rst total) ∧ J h ax ∧ ∀ l r', total = some (l, r') → ax = l := by
      intro hc
      cases τ with
      | none =>
        rw [hN rfl]
        exact ⟨ax, hr, hJa, fun l r' e => by cases e⟩
      | some l0 =>
        have hm0 : m = 0 := by rcases hc with hc | hc; cases hc; exact hc
        subst hm0
        have e := hS l0 rfl
        simp only [dRep, preL, List.append_nil] at e
        rw [e]
        exact ⟨ax, hr, hJa, fun l r' e => by cases e; rfl⟩
    have hgo : m ≠ 0 → τ ≠ none → WPc tab.get O g caps h (fun _ h' => ∃ ax τ, RdSt hb h' r b bs τ ∧ J h' ax ∧ ax.length + (m - 1) ≤ most ∧ (τ = none → total = none) ∧ ∀ l0, τ = some l0 → total = preL ax (dRep c.dec (m - 1) l0)) := by
      intro hm0 hτ
      refine (hdo h ax τ hr hJa (by omega)).mono fun _ h' ⟨x, q1, q2, q3⟩ => ⟨ax ++ [x], _, q1, q2, by simp; omega, ?_, ?_⟩
      · intro e
        cases τ with
        | none => exact absurd rfl hτ
        | some l0 =>
          rw [hS l0 rfl]
          obtain ⟨k, rfl⟩ : ∃ k, m = k + 1 := ⟨m - 1, by omega⟩
          simp only [dRep]
          have e : rst (c.dec l0) = none := e
          cases hd : c.dec l0 with
          | none => rfl
          | some y => rw [hd] at e; cases e
      · intro l1 e
        cases τ with
        | none => exact absurd rfl hτ
        | some l0 =>
          rw [hS l0 rfl]
          obtain ⟨k, rfl⟩ : ∃ k, m = k + 1 := ⟨m - 1, by omega⟩
          have e : rst (c.dec l0) = some l1 := e
          have q3 : ∀ y l, c.dec l0 = some (y, l) → x = y := q3
          simp only [dRep, Nat.add_sub_cancel]
          cases hd : c.dec l0 with
          | none => rw [hd] at e; cases e
          | some y =>
            obtain ⟨a, l'⟩ := y
            have := q3 a l' hd
            subst this
            rw [hd] at e
            cases e
            simp only
            cases dRep c.dec k l1 with
            | none => rfl
            | some z => obtain ⟨zs, l2⟩ := z; simp [preL]
    cases τ with
    | none =>
      obtain ⟨h1', h2, a, h3⟩ := hr
      repeat' (first | refine w_seq ?_ | refine w_reg ?_ | refine w_end (by simp only [outsV, nth, setV, List.take_succ_cons, List.take_zero, List.length_cons, List.length_nil, Nat.zero_add, Nat.reduceAdd] <;> rfl) ?_ | refine w_off rfl ?_ | refine w_rfg rfl rfl (by assumption) (by rfl) (by rfl) (by rfl) (by rfl) ?_ | refine w_on rfl ?_ | refine w_gtrN rfl rfl (fun hc => ?_) (fun hc => ?_) | refine w_opk rfl rfl ?_ | refine w_cond_f rfl ?_ | refine w_exit rfl ?_ | refine w_rt rfl ?_)
      · exact hfin (.inl rfl)
      · exact hfin (.inl rfl)
    | some l0 =>
      obtain ⟨h1', h2, a, ha, hl, h3⟩ := hr
      repeat' (first | refine w_seq ?_ | refine w_reg ?_ | refine w_end (by simp only [outsV, nth, setV, List.take_succ_cons, List.take_zero, List.length_cons, List.length_nil, Nat.zero_add, Nat.reduceAdd] <;> rfl) ?_ | refine w_off rfl ?_ | refine w_rfg rfl rfl (by assumption) (by rfl) (by rfl) (by rfl) (by rfl) ?_ | refine w_on rfl ?_ | refine w_gtrN rfl rfl (fun hc => ?_) (fun hc => ?_) | refine w_opk rfl rfl ?_ | refine w_cond_t rfl ?_ | refine w_cond_f rfl ?_ | refine w_skip ?_ | refine w_exit rfl ?_ | refine w_rt rfl ?_)
      · have hm0 : 0 < m := by assumption
        refine w_block ?_
        repeat' (first | refine w_reg ?_ | refine w_opk rfl rfl ?_)
        refine w_callv rfl rfl ((hgo (by omega) (by simp)).mono fun v h' ⟨as', τ', q1, q2, q3, q4, q5⟩ => ?_)
        repeat' (first | refine w_reg ?_ | refine w_end (by simp only [outsV, nth, setV, List.take_succ_cons, List.take_zero, List.length_cons, List.length_nil, Nat.zero_add, Nat.reduceAdd] <;> rfl) ?_ | refine w_opq rfl rfl ?_)
        refine w_subN (b := 1) rfl (by rfl) (by omega) (by omega) ?_
        repeat' (first | refine w_end (by simp only [outsV, nth, setV, List.take_succ_cons, List.take_zero, List.length_cons, List.length_nil, Nat.zero_add, Nat.reduceAdd] <;> rfl) ?_ | refine w_opk rfl rfl ?_)
        exact ⟨m - 1, by omega, as', τ', _, rfl, q1, q2, q3, q4, q5⟩
      · have hm0 : m ≤ 0 := by assumption
        exact hfin (.inr (by omega))
  · intro e
    rw [hT]
    cases hd : aft (cNum most hm).dec σ with
    | none => rfl
    | some y => rw [hd] at e; cases e
  · intro l0 e
    rw [hT]
    cases hd : aft (cNum most hm).dec σ with
    | none => rw [hd] at e; cases e
    | some y =>
      obtain ⟨n, l⟩ := y
      rw [hd] at e
      cases e
      exact (preL_nil _).symm
end AmT
