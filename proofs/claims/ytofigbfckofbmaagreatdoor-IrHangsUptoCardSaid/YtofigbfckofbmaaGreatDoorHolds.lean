/-
  ir.Holds at any module and needs: all needs are of functions that there are, with their sums. Conditions: the module is one, by its cells.
-/
import Derived.Test.YtofigbfckofbmaaGreatDoorSum
namespace AmT
open Go Am
set_option maxRecDepth 100000
set_option linter.unusedSimpArgs false
set_option linter.unusedVariables false
set_option maxHeartbeats 2000000
variable {O : CallF}

/-- A function and its sum. -/
def FnS (h : Heap) (f : List V) (s : Int) : Prop := ∃ nm p vs cs code, f = [.str nm, .int .i64 p, .int .i64 vs, cs] ∧ RS h 3 cs code ∧ (∀ i ∈ code, InsC i) ∧ code.length ≤ 2097152 ∧ s = sumOf p vs code
theorem FnS.ext {h h' : Heap} (hE : Ext h h') {f : List V} {s : Int} (k : FnS h f s) : FnS h' f s := by
  obtain ⟨nm, p, vs, cs, code, e, hr, hc⟩ := k
  exact ⟨nm, p, vs, cs, code, e, hr.ext0 hE, hc⟩

/-- A module's functions, and their sums. -/
def FnsS (h : Heap) (f : V) (lf : List (List V)) (S : List Int) : Prop := RS h 4 f lf ∧ S.length = lf.length ∧ ∀ (k : Nat) (x : List V) (s : Int), lf[k]? = some x → S[k]? = some s → FnS h x s
theorem FnsS.ext {h h' : Heap} (hE : Ext h h') {f : V} {lf : List (List V)} {S : List Int} (k : FnsS h f lf S) : FnsS h' f lf S := ⟨k.1.ext0 hE, k.2.1, fun i x s hx hs => (k.2.2 i x s hx hs).ext hE⟩

theorem fnsS_of {h : Heap} {f : V} {lf : List (List V)} (hr : RS h 4 f lf) (hf : ∀ x ∈ lf, FnC h x) : ∃ S, FnsS h f lf S := by
  suffices ∀ l : List (List V), (∀ x ∈ l, FnC h x) → ∃ S : List Int, S.length = l.length ∧ ∀ (k : Nat) (x : List V) (s : Int), l[k]? = some x → S[k]? = some s → FnS h x s by
    obtain ⟨S, h1, h2⟩ := this lf hf
    exact ⟨S, hr, h1, h2⟩
  intro l
  induction l with
  | nil => exact fun _ => ⟨[], rfl, fun k x s hx => by simp at hx⟩
  | cons a l ih =>
    intro hl
    obtain ⟨S, h1, h2⟩ := ih fun x hx => hl x (by simp [hx])
    obtain ⟨nm, p, vs, cs, code, e, hr, hi, hc⟩ := hl a (by simp)
    refine ⟨sumOf p vs code :: S, by simp [h1], fun k x s hx hs => ?_⟩
    cases k with
    | zero =>
      simp at hx hs
      exact ⟨nm, p, vs, cs, code, by rw [← hx, e], hr, hi, hc, hs.symm⟩
    | succ k => exact h2 k x s (by simpa using hx) (by simpa using hs)

def needOk (S : List Int) (n s : Int) : Bool := decide (0 ≤ n ∧ S[n.toNat]? = some s)

theorem sum_any (hO : OffSum O) {h0 : Heap} {c : List V} {lf : List (List V)} {S : List Int} {a b f d : V} {n : Int} (hc : c = [a, b, f, d]) (h1 : allOne c = true) (hf : FnsS h0 f lf S) :
    WPc tab.get O 11 [.agg c, .int .i64 n] h0 (fun v h' => (∃ r, v = .int .u32 r ∧ ((n < 0 ∨ Int.ofNat lf.length ≤ n) ∧ r = 0 ∨ 0 ≤ n ∧ S[n.toNat]? = some r)) ∧ Ext h0 h') := by
  by_cases hn : n < 0 ∨ Int.ofNat lf.length ≤ n
  · exact (sum_none hO hc h1 hf.1 hn).mono fun v h' ⟨hv, hE⟩ => ⟨⟨0, hv, .inl ⟨hn, rfl⟩⟩, hE⟩
  · obtain ⟨k, rfl⟩ : ∃ k : Nat, n = Int.ofNat k := ⟨n.toNat, by simp at hn ⊢; omega⟩
    have hk : k < lf.length := by simp at hn; omega
    have hkS : k < S.length := by rw [hf.2.1]; exact hk
    obtain ⟨nm, p, vs, cs, code, e, hr, hi, hc', hs⟩ := hf.2.2 k lf[k] S[k] (List.getElem?_eq_getElem hk) (List.getElem?_eq_getElem hkS)
    refine (sum_some hO hc h1 hf.1 hk e hr hi hc').mono fun v h' ⟨hv, hE⟩ => ⟨⟨_, hv, .inr ⟨Int.natCast_nonneg _, ?_⟩⟩, hE⟩
    rw [← hs]
    exact List.getElem?_eq_getElem hkS

structure OffHolds (O : CallF) : Prop extends OffSum O where
  h1 : ∀ a h, O 36 a h = none
  ix : ∀ a h, O 71 a h = none
  cf : ∀ a h, O 35 a h = none
  hd : ∀ a h, O 12 a h = none

theorem holds1_ok (hO : OffHolds O) {h0 : Heap} {lf : List (List V)} {S : List Int} {a b f d : V} {id : Nat} {n s : Int} (h1 : allOne [a, b, f, d] = true) (hm : Own h0 id [a, b, f, d]) (hf : FnsS h0 f lf S) :
    WPc tab.get O 36 [.agg [.int .i64 n, .int .u32 s], .ptr id 0 0 4] h0 (fun v h' => v = .bool (!needOk S n s) ∧ Ext h0 h') := by
  refine w_fn' (hO.h1 _ _) rfl rfl (by simp only [c36, initV, nth] <;> rfl) ?_
  refine w_seq (w_reg (w_box rfl rfl rfl fun ib h2 ho hib hE => ?_))
  replace ho : Own h2 ib [.int .i64 n, .int .u32 s] := ho
  replace hm := hm.ext0 hE
  replace hf := hf.ext hE
  have hfr := hf.1
  repeat' (first
    | refine w_seq ?_
    | refine w_reg ?_
    | refine w_end (by simp only [outsV, nth, setV, List.take_succ_cons, List.take_zero, List.length_cons, List.length_nil, Nat.zero_add, Nat.reduceAdd] <;> rfl) ?_
    | refine w_off rfl ?_
    | refine w_rf rfl (by assumption) (by rfl) (by rfl) (by rfl) ?_
    | refine w_rfg rfl rfl (by assumption) (by rfl) (by rfl) (by rfl) (by rfl) ?_
    | refine w_on rfl ?_
    | refine w_len rfl (by assumption) ?_
    | refine w_lssN rfl rfl (fun hc => ?_) (fun hc => ?_)
    | refine w_leqN rfl rfl (fun hc => ?_) (fun hc => ?_)
    | refine w_gtrN rfl rfl (fun hc => ?_) (fun hc => ?_)
    | refine w_geqN rfl rfl (fun hc => ?_) (fun hc => ?_)
    | refine w_eqlN rfl rfl (fun hc => ?_) (fun hc => ?_)
    | refine w_neqN rfl rfl (fun hc => ?_) (fun hc => ?_)
    | refine w_lss rfl rfl (fun hc => ?_) (fun hc => ?_)
    | refine w_leq rfl rfl (fun hc => ?_) (fun hc => ?_)
    | refine w_gtr rfl rfl (fun hc => ?_) (fun hc => ?_)
    | refine w_geq rfl rfl (fun hc => ?_) (fun hc => ?_)
    | refine w_eql rfl rfl (fun hc => ?_) (fun hc => ?_)
    | refine w_neq rfl rfl (fun hc => ?_) (fun hc => ?_)
    | refine w_addN rfl rfl (by omega) ?_
    | refine w_opk rfl rfl ?_
    | refine w_cond_t rfl ?_
    | refine w_cond_f rfl ?_
    | refine w_skip ?_
    | refine w_exit rfl ?_
    | refine w_ret ?_
    | refine w_rt rfl ?_)
  · refine ⟨?_, hE⟩
    have : n < 0 := hc
    have hb : needOk S n s = false := decide_eq_false (fun h => by omega)
    rw [hb]; rfl
  · refine ⟨?_, hE⟩
    have : Int.ofNat lf.length ≤ n := hc
    have h2 : 0 ≤ n := by assumption
    have : S[n.toNat]? = none := List.getElem?_eq_none (by rw [hf.2.1]; simp at this; omega)
    have hb : needOk S n s = false := decide_eq_false (fun h => by rw [this] at h; cases h.2)
    rw [hb]; rfl
  · refine w_loadA rfl (hm.at rfl) rfl ?_
    repeat' (first
      | refine w_seq ?_
      | refine w_reg ?_
      | refine w_end (by simp only [outsV, nth, setV, List.take_succ_cons, List.take_zero, List.length_cons, List.length_nil, Nat.zero_add, Nat.reduceAdd] <;> rfl) ?_
      | refine w_off rfl ?_
      | refine w_rf rfl (by assumption) (by rfl) (by rfl) (by rfl) ?_
      | refine w_rfg rfl rfl (by assumption) (by rfl) (by rfl) (by rfl) (by rfl) ?_
      | refine w_on rfl ?_
      | refine w_len rfl (by assumption) ?_
      | refine w_lssN rfl rfl (fun hc => ?_) (fun hc => ?_)
      | refine w_leqN rfl rfl (fun hc => ?_) (fun hc => ?_)
      | refine w_gtrN rfl rfl (fun hc => ?_) (fun hc => ?_)
      | refine w_geqN rfl rfl (fun hc => ?_) (fun hc => ?_)
      | refine w_eqlN rfl rfl (fun hc => ?_) (fun hc => ?_)
      | refine w_neqN rfl rfl (fun hc => ?_) (fun hc => ?_)
      | refine w_lss rfl rfl (fun hc => ?_) (fun hc => ?_)
      | refine w_leq rfl rfl (fun hc => ?_) (fun hc => ?_)
      | refine w_gtr rfl rfl (fun hc => ?_) (fun hc => ?_)
      | refine w_geq rfl rfl (fun hc => ?_) (fun hc => ?_)
      | refine w_eql rfl rfl (fun hc => ?_) (fun hc => ?_)
      | refine w_neq rfl rfl (fun hc => ?_) (fun hc => ?_)
      | refine w_addN rfl rfl (by omega) ?_
      | refine w_opk rfl rfl ?_
      | refine w_cond_t rfl ?_
      | refine w_cond_f rfl ?_
      | refine w_skip ?_
      | refine w_exit rfl ?_
      | refine w_ret ?_
      | refine w_rt rfl ?_)
    refine w_call rfl ((sum_any hO.toOffSum rfl h1 hf).mono fun v h3 ⟨⟨r, hv, hr⟩, hE3⟩ => ?_)
    subst hv
    replace ho := ho.ext0 hE3
    have hn0 : 0 ≤ n := by assumption
    have hnl : n < Int.ofNat lf.length := by assumption
    have hr : S[n.toNat]? = some r := by
      rcases hr with ⟨h, _⟩ | ⟨_, h⟩
      · omega
      · exact h
    refine w_on rfl (w_chk1 rfl rfl ((ho.at rfl).fadr (d := 1) (by simp)) (by simp [V.beq]) ?_)
    repeat' (first
      | refine w_seq ?_
      | refine w_reg ?_
      | refine w_end (by simp only [outsV, nth, setV, List.take_succ_cons, List.take_zero, List.length_cons, List.length_nil, Nat.zero_add, Nat.reduceAdd] <;> rfl) ?_
      | refine w_off rfl ?_
      | refine w_rf rfl (by assumption) (by rfl) (by rfl) (by rfl) ?_
      | refine w_rfg rfl rfl (by assumption) (by rfl) (by rfl) (by rfl) (by rfl) ?_
      | refine w_on rfl ?_
      | refine w_len rfl (by assumption) ?_
      | refine w_lssN rfl rfl (fun hc => ?_) (fun hc => ?_)
      | refine w_leqN rfl rfl (fun hc => ?_) (fun hc => ?_)
      | refine w_gtrN rfl rfl (fun hc => ?_) (fun hc => ?_)
      | refine w_geqN rfl rfl (fun hc => ?_) (fun hc => ?_)
      | refine w_eqlN rfl rfl (fun hc => ?_) (fun hc => ?_)
      | refine w_neqN rfl rfl (fun hc => ?_) (fun hc => ?_)
      | refine w_lss rfl rfl (fun hc => ?_) (fun hc => ?_)
      | refine w_leq rfl rfl (fun hc => ?_) (fun hc => ?_)
      | refine w_gtr rfl rfl (fun hc => ?_) (fun hc => ?_)
      | refine w_geq rfl rfl (fun hc => ?_) (fun hc => ?_)
      | refine w_eql rfl rfl (fun hc => ?_) (fun hc => ?_)
      | refine w_neq rfl rfl (fun hc => ?_) (fun hc => ?_)
      | refine w_addN rfl rfl (by omega) ?_
      | refine w_opk rfl rfl ?_
      | refine w_cond_t rfl ?_
      | refine w_cond_f rfl ?_
      | refine w_skip ?_
      | refine w_exit rfl ?_
      | refine w_ret ?_
      | refine w_rt rfl ?_)
    · refine ⟨?_, hE.trans hE3⟩
      have : r ≠ s := hc
      have hb : needOk S n s = false := decide_eq_false (fun h => by rw [hr] at h; cases h.2; exact this rfl)
      rw [hb]; rfl
    · refine ⟨?_, hE.trans hE3⟩
      have : r = s := hc
      have hb : needOk S n s = true := decide_eq_true ⟨hn0, by rw [hr, this]⟩
      rw [hb]; rfl

/-- slices.IndexFunc of needs. -/
theorem indexNeed_ok (hO : OffHolds O) {h0 : Heap} {s : V} {l : List (List V)} {g : Nat} {first caps : List V} {P : Nat → Bool} (hs : RS h0 2 s l) (hl : l.length ≤ 2097152) (hone : ∀ c ∈ l, allOne c = true)
    (hg : ∀ (j : Nat) (hj : j < l.length) (h : Heap), Ext h0 h → WPc tab.get O g (first ++ [.agg l[j]] ++ caps) h (fun v h' => v = .bool (P j) ∧ Ext h h')) :
    WPc tab.get O 71 [s, .fn g first caps] h0 (fun v h' => ((∃ j, v = .int .i64 (.ofNat j) ∧ j < l.length ∧ P j = true) ∨ (v = .int .i64 (.negSucc 0) ∧ ∀ j, j < l.length → P j = false)) ∧ Ext h0 h') := by
  refine w_fn' (hO.ix _ _) rfl rfl (by simp only [c71, initV, nth] <;> rfl) ?_
  repeat' (first
    | refine w_seq ?_
    | refine w_reg ?_
    | refine w_end (by simp only [outsV, nth, setV, List.take_succ_cons, List.take_zero, List.length_cons, List.length_nil, Nat.zero_add, Nat.reduceAdd] <;> rfl) ?_
    | refine w_off rfl ?_
    | refine w_rf rfl (by assumption) (by rfl) (by rfl) (by rfl) ?_
    | refine w_rfg rfl rfl (by assumption) (by rfl) (by rfl) (by rfl) (by rfl) ?_
    | refine w_on rfl ?_
    | refine w_len rfl (by assumption) ?_
    | refine w_lssN rfl rfl (fun hc => ?_) (fun hc => ?_)
    | refine w_leqN rfl rfl (fun hc => ?_) (fun hc => ?_)
    | refine w_gtrN rfl rfl (fun hc => ?_) (fun hc => ?_)
    | refine w_geqN rfl rfl (fun hc => ?_) (fun hc => ?_)
    | refine w_eqlN rfl rfl (fun hc => ?_) (fun hc => ?_)
    | refine w_neqN rfl rfl (fun hc => ?_) (fun hc => ?_)
    | refine w_lss rfl rfl (fun hc => ?_) (fun hc => ?_)
    | refine w_leq rfl rfl (fun hc => ?_) (fun hc => ?_)
    | refine w_gtr rfl rfl (fun hc => ?_) (fun hc => ?_)
    | refine w_geq rfl rfl (fun hc => ?_) (fun hc => ?_)
    | refine w_eql rfl rfl (fun hc => ?_) (fun hc => ?_)
    | refine w_neq rfl rfl (fun hc => ?_) (fun hc => ?_)
    | refine w_addN rfl rfl (by omega) ?_
    | refine w_opk rfl rfl ?_
    | refine w_cond_t rfl ?_
    | refine w_cond_f rfl ?_
    | refine w_skip ?_
    | refine w_exit rfl ?_
    | refine w_ret ?_
    | refine w_rt rfl ?_)
  refine w_count (fun j vs h => ∃ a b c, vs = [s, .fn g first caps, .int .i64 (.ofNat 0), .int .i64 (.ofNat j), .int .i64 (.ofNat l.length), a, b, c] ∧ Ext h0 h ∧ ∀ i, i < j → P i = false) l.length ⟨_, _, _, rfl, ExtX.refl _ _, fun i hi => absurd hi (Nat.not_lt_zero _)⟩ ?_
  rintro j vs h hj ⟨a, b, c, rfl, hE, hP⟩
  have hs' := hs.ext0 hE
  repeat' (first
    | refine w_seq ?_
    | refine w_reg ?_
    | refine w_end (by simp only [outsV, nth, setV, List.take_succ_cons, List.take_zero, List.length_cons, List.length_nil, Nat.zero_add, Nat.reduceAdd] <;> rfl) ?_
    | refine w_off rfl ?_
    | refine w_rf rfl (by assumption) (by rfl) (by rfl) (by rfl) ?_
    | refine w_rfg rfl rfl (by assumption) (by rfl) (by rfl) (by rfl) (by rfl) ?_
    | refine w_on rfl ?_
    | refine w_len rfl (by assumption) ?_
    | refine w_lssN rfl rfl (fun hc => ?_) (fun hc => ?_)
    | refine w_leqN rfl rfl (fun hc => ?_) (fun hc => ?_)
    | refine w_gtrN rfl rfl (fun hc => ?_) (fun hc => ?_)
    | refine w_geqN rfl rfl (fun hc => ?_) (fun hc => ?_)
    | refine w_eqlN rfl rfl (fun hc => ?_) (fun hc => ?_)
    | refine w_neqN rfl rfl (fun hc => ?_) (fun hc => ?_)
    | refine w_lss rfl rfl (fun hc => ?_) (fun hc => ?_)
    | refine w_leq rfl rfl (fun hc => ?_) (fun hc => ?_)
    | refine w_gtr rfl rfl (fun hc => ?_) (fun hc => ?_)
    | refine w_geq rfl rfl (fun hc => ?_) (fun hc => ?_)
    | refine w_eql rfl rfl (fun hc => ?_) (fun hc => ?_)
    | refine w_neq rfl rfl (fun hc => ?_) (fun hc => ?_)
    | refine w_addN rfl rfl (by omega) ?_
    | refine w_opk rfl rfl ?_
    | refine w_cond_t rfl ?_
    | refine w_cond_f rfl ?_
    | refine w_skip ?_
    | refine w_exit rfl ?_
    | refine w_ret ?_
    | refine w_rt rfl ?_)
  · refine w_block ?_
    repeat' (first
      | refine w_seq ?_
      | refine w_reg ?_
      | refine w_end (by simp only [outsV, nth, setV, List.take_succ_cons, List.take_zero, List.length_cons, List.length_nil, Nat.zero_add, Nat.reduceAdd] <;> rfl) ?_
      | refine w_off rfl ?_
      | refine w_rf rfl (by assumption) (by rfl) (by rfl) (by rfl) ?_
      | refine w_rfg rfl rfl (by assumption) (by rfl) (by rfl) (by rfl) (by rfl) ?_
      | refine w_on rfl ?_
      | refine w_len rfl (by assumption) ?_
      | refine w_lssN rfl rfl (fun hc => ?_) (fun hc => ?_)
      | refine w_leqN rfl rfl (fun hc => ?_) (fun hc => ?_)
      | refine w_gtrN rfl rfl (fun hc => ?_) (fun hc => ?_)
      | refine w_geqN rfl rfl (fun hc => ?_) (fun hc => ?_)
      | refine w_eqlN rfl rfl (fun hc => ?_) (fun hc => ?_)
      | refine w_neqN rfl rfl (fun hc => ?_) (fun hc => ?_)
      | refine w_lss rfl rfl (fun hc => ?_) (fun hc => ?_)
      | refine w_leq rfl rfl (fun hc => ?_) (fun hc => ?_)
      | refine w_gtr rfl rfl (fun hc => ?_) (fun hc => ?_)
      | refine w_geq rfl rfl (fun hc => ?_) (fun hc => ?_)
      | refine w_eql rfl rfl (fun hc => ?_) (fun hc => ?_)
      | refine w_neq rfl rfl (fun hc => ?_) (fun hc => ?_)
      | refine w_addN rfl rfl (by omega) ?_
      | refine w_opk rfl rfl ?_
      | refine w_cond_t rfl ?_
      | refine w_cond_f rfl ?_
      | refine w_skip ?_
      | refine w_exit rfl ?_
      | refine w_ret ?_
      | refine w_rt rfl ?_)
    have hj' : j < l.length := by assumption
    refine w_iadr rfl rfl hs' hj' fun q hq => ?_
    have hlen := hs.2.2.2 l[j] (List.getElem_mem hj')
    refine w_loadA rfl hq (nble.2 (by omega)) ?_
    have hag : V.agg (l[j].take 2) = .agg l[j] := by rw [List.take_of_length_le (by omega)]
    refine w_callv rfl rfl ?_
    simp only [hag]
    refine (hg j hj' h hE).mono fun v h2 ⟨hv, hE2⟩ => ?_
    subst hv
    refine w_end (by simp only [outsV, nth, setV] <;> rfl) ?_
    refine w_cond rfl (fun hb => ?_) (fun hb => ?_)
    · repeat' (first
        | refine w_seq ?_
        | refine w_reg ?_
        | refine w_end (by simp only [outsV, nth, setV, List.take_succ_cons, List.take_zero, List.length_cons, List.length_nil, Nat.zero_add, Nat.reduceAdd] <;> rfl) ?_
        | refine w_off rfl ?_
        | refine w_rf rfl (by assumption) (by rfl) (by rfl) (by rfl) ?_
        | refine w_rfg rfl rfl (by assumption) (by rfl) (by rfl) (by rfl) (by rfl) ?_
        | refine w_on rfl ?_
        | refine w_len rfl (by assumption) ?_
        | refine w_lssN rfl rfl (fun hc => ?_) (fun hc => ?_)
        | refine w_leqN rfl rfl (fun hc => ?_) (fun hc => ?_)
        | refine w_gtrN rfl rfl (fun hc => ?_) (fun hc => ?_)
        | refine w_geqN rfl rfl (fun hc => ?_) (fun hc => ?_)
        | refine w_eqlN rfl rfl (fun hc => ?_) (fun hc => ?_)
        | refine w_neqN rfl rfl (fun hc => ?_) (fun hc => ?_)
        | refine w_lss rfl rfl (fun hc => ?_) (fun hc => ?_)
        | refine w_leq rfl rfl (fun hc => ?_) (fun hc => ?_)
        | refine w_gtr rfl rfl (fun hc => ?_) (fun hc => ?_)
        | refine w_geq rfl rfl (fun hc => ?_) (fun hc => ?_)
        | refine w_eql rfl rfl (fun hc => ?_) (fun hc => ?_)
        | refine w_neq rfl rfl (fun hc => ?_) (fun hc => ?_)
        | refine w_addN rfl rfl (by omega) ?_
        | refine w_opk rfl rfl ?_
        | refine w_cond_t rfl ?_
        | refine w_cond_f rfl ?_
        | refine w_skip ?_
        | refine w_exit rfl ?_
        | refine w_ret ?_
        | refine w_rt rfl ?_)
      exact ⟨.inl ⟨j, rfl, hj', hb⟩, hE.trans hE2⟩
    · repeat' (first
        | refine w_seq ?_
        | refine w_reg ?_
        | refine w_end (by simp only [outsV, nth, setV, List.take_succ_cons, List.take_zero, List.length_cons, List.length_nil, Nat.zero_add, Nat.reduceAdd] <;> rfl) ?_
        | refine w_off rfl ?_
        | refine w_rf rfl (by assumption) (by rfl) (by rfl) (by rfl) ?_
        | refine w_rfg rfl rfl (by assumption) (by rfl) (by rfl) (by rfl) (by rfl) ?_
        | refine w_on rfl ?_
        | refine w_len rfl (by assumption) ?_
        | refine w_lssN rfl rfl (fun hc => ?_) (fun hc => ?_)
        | refine w_leqN rfl rfl (fun hc => ?_) (fun hc => ?_)
        | refine w_gtrN rfl rfl (fun hc => ?_) (fun hc => ?_)
        | refine w_geqN rfl rfl (fun hc => ?_) (fun hc => ?_)
        | refine w_eqlN rfl rfl (fun hc => ?_) (fun hc => ?_)
        | refine w_neqN rfl rfl (fun hc => ?_) (fun hc => ?_)
        | refine w_lss rfl rfl (fun hc => ?_) (fun hc => ?_)
        | refine w_leq rfl rfl (fun hc => ?_) (fun hc => ?_)
        | refine w_gtr rfl rfl (fun hc => ?_) (fun hc => ?_)
        | refine w_geq rfl rfl (fun hc => ?_) (fun hc => ?_)
        | refine w_eql rfl rfl (fun hc => ?_) (fun hc => ?_)
        | refine w_neq rfl rfl (fun hc => ?_) (fun hc => ?_)
        | refine w_addN rfl rfl (by omega) ?_
        | refine w_opk rfl rfl ?_
        | refine w_cond_t rfl ?_
        | refine w_cond_f rfl ?_
        | refine w_skip ?_
        | refine w_exit rfl ?_
        | refine w_ret ?_
        | refine w_rt rfl ?_)
      refine ⟨hj', _, _, _, rfl, hE.trans hE2, fun i hi => ?_⟩
      rcases Nat.lt_or_ge i j with h' | h'
      · exact hP i h'
      · rw [show i = j by omega]; exact hb
  · exact ⟨.inr ⟨rfl, fun i hi => hP i (by omega)⟩, hE⟩

theorem containsNeed_ok (hO : OffHolds O) {h0 : Heap} {s : V} {l : List (List V)} {g : Nat} {first caps : List V} {P : Nat → Bool} (hs : RS h0 2 s l) (hl : l.length ≤ 2097152) (hone : ∀ c ∈ l, allOne c = true)
    (hg : ∀ (j : Nat) (hj : j < l.length) (h : Heap), Ext h0 h → WPc tab.get O g (first ++ [.agg l[j]] ++ caps) h (fun v h' => v = .bool (P j) ∧ Ext h h')) :
    WPc tab.get O 35 [s, .fn g first caps] h0 (fun v h' => (∃ b, v = .bool b ∧ (b = true ↔ ∃ j, j < l.length ∧ P j = true)) ∧ Ext h0 h') := by
  refine w_fn' (hO.cf _ _) rfl rfl (by simp only [c35, initV, nth] <;> rfl) ?_
  repeat' (first
    | refine w_seq ?_
    | refine w_reg ?_
    | refine w_end (by simp only [outsV, nth, setV, List.take_succ_cons, List.take_zero, List.length_cons, List.length_nil, Nat.zero_add, Nat.reduceAdd] <;> rfl) ?_
    | refine w_off rfl ?_
    | refine w_rf rfl (by assumption) (by rfl) (by rfl) (by rfl) ?_
    | refine w_rfg rfl rfl (by assumption) (by rfl) (by rfl) (by rfl) (by rfl) ?_
    | refine w_on rfl ?_
    | refine w_len rfl (by assumption) ?_
    | refine w_lssN rfl rfl (fun hc => ?_) (fun hc => ?_)
    | refine w_leqN rfl rfl (fun hc => ?_) (fun hc => ?_)
    | refine w_gtrN rfl rfl (fun hc => ?_) (fun hc => ?_)
    | refine w_geqN rfl rfl (fun hc => ?_) (fun hc => ?_)
    | refine w_eqlN rfl rfl (fun hc => ?_) (fun hc => ?_)
    | refine w_neqN rfl rfl (fun hc => ?_) (fun hc => ?_)
    | refine w_lss rfl rfl (fun hc => ?_) (fun hc => ?_)
    | refine w_leq rfl rfl (fun hc => ?_) (fun hc => ?_)
    | refine w_gtr rfl rfl (fun hc => ?_) (fun hc => ?_)
    | refine w_geq rfl rfl (fun hc => ?_) (fun hc => ?_)
    | refine w_eql rfl rfl (fun hc => ?_) (fun hc => ?_)
    | refine w_neq rfl rfl (fun hc => ?_) (fun hc => ?_)
    | refine w_addN rfl rfl (by omega) ?_
    | refine w_opk rfl rfl ?_
    | refine w_cond_t rfl ?_
    | refine w_cond_f rfl ?_
    | refine w_skip ?_
    | refine w_exit rfl ?_
    | refine w_ret ?_
    | refine w_rt rfl ?_)
  refine w_call rfl ((indexNeed_ok hO hs hl hone hg).mono fun v h2 ⟨hv, hE⟩ => ?_)
  rcases hv with ⟨j, rfl, hj, hP⟩ | ⟨rfl, hP⟩
  · repeat' (first
      | refine w_seq ?_
      | refine w_reg ?_
      | refine w_end (by simp only [outsV, nth, setV, List.take_succ_cons, List.take_zero, List.length_cons, List.length_nil, Nat.zero_add, Nat.reduceAdd] <;> rfl) ?_
      | refine w_off rfl ?_
      | refine w_rf rfl (by assumption) (by rfl) (by rfl) (by rfl) ?_
      | refine w_rfg rfl rfl (by assumption) (by rfl) (by rfl) (by rfl) (by rfl) ?_
      | refine w_on rfl ?_
      | refine w_len rfl (by assumption) ?_
      | refine w_lssN rfl rfl (fun hc => ?_) (fun hc => ?_)
      | refine w_leqN rfl rfl (fun hc => ?_) (fun hc => ?_)
      | refine w_gtrN rfl rfl (fun hc => ?_) (fun hc => ?_)
      | refine w_geqN rfl rfl (fun hc => ?_) (fun hc => ?_)
      | refine w_eqlN rfl rfl (fun hc => ?_) (fun hc => ?_)
      | refine w_neqN rfl rfl (fun hc => ?_) (fun hc => ?_)
      | refine w_lss rfl rfl (fun hc => ?_) (fun hc => ?_)
      | refine w_leq rfl rfl (fun hc => ?_) (fun hc => ?_)
      | refine w_gtr rfl rfl (fun hc => ?_) (fun hc => ?_)
      | refine w_geq rfl rfl (fun hc => ?_) (fun hc => ?_)
      | refine w_eql rfl rfl (fun hc => ?_) (fun hc => ?_)
      | refine w_neq rfl rfl (fun hc => ?_) (fun hc => ?_)
      | refine w_addN rfl rfl (by omega) ?_
      | refine w_opk rfl rfl ?_
      | refine w_cond_t rfl ?_
      | refine w_cond_f rfl ?_
      | refine w_skip ?_
      | refine w_exit rfl ?_
      | refine w_ret ?_
      | refine w_rt rfl ?_)
    · exact ⟨⟨true, rfl, by simpa using ⟨j, hj, hP⟩⟩, hE⟩
    · exact absurd hc (Nat.not_lt_zero _)
  · repeat' (first
      | refine w_seq ?_
      | refine w_reg ?_
      | refine w_end (by simp only [outsV, nth, setV, List.take_succ_cons, List.take_zero, List.length_cons, List.length_nil, Nat.zero_add, Nat.reduceAdd] <;> rfl) ?_
      | refine w_off rfl ?_
      | refine w_rf rfl (by assumption) (by rfl) (by rfl) (by rfl) ?_
      | refine w_rfg rfl rfl (by assumption) (by rfl) (by rfl) (by rfl) (by rfl) ?_
      | refine w_on rfl ?_
      | refine w_len rfl (by assumption) ?_
      | refine w_lssN rfl rfl (fun hc => ?_) (fun hc => ?_)
      | refine w_leqN rfl rfl (fun hc => ?_) (fun hc => ?_)
      | refine w_gtrN rfl rfl (fun hc => ?_) (fun hc => ?_)
      | refine w_geqN rfl rfl (fun hc => ?_) (fun hc => ?_)
      | refine w_eqlN rfl rfl (fun hc => ?_) (fun hc => ?_)
      | refine w_neqN rfl rfl (fun hc => ?_) (fun hc => ?_)
      | refine w_lss rfl rfl (fun hc => ?_) (fun hc => ?_)
      | refine w_leq rfl rfl (fun hc => ?_) (fun hc => ?_)
      | refine w_gtr rfl rfl (fun hc => ?_) (fun hc => ?_)
      | refine w_geq rfl rfl (fun hc => ?_) (fun hc => ?_)
      | refine w_eql rfl rfl (fun hc => ?_) (fun hc => ?_)
      | refine w_neq rfl rfl (fun hc => ?_) (fun hc => ?_)
      | refine w_addN rfl rfl (by omega) ?_
      | refine w_opk rfl rfl ?_
      | refine w_cond_t rfl ?_
      | refine w_cond_f rfl ?_
      | refine w_skip ?_
      | refine w_exit rfl ?_
      | refine w_ret ?_
      | refine w_rt rfl ?_)
    · exact absurd hc (by decide)
    · refine ⟨⟨false, rfl, ?_⟩, hE⟩
      simp only [Bool.false_eq_true, false_iff, not_exists, not_and, Bool.not_eq_true]
      exact hP

def NeedC (c : List V) : Prop := ∃ n s : Int, c = [.int .i64 n, .int .u32 s]
def needC (S : List Int) : List V → Bool
  | [.int _ n, .int _ s] => needOk S n s
  | _ => false

theorem holds_ok (hO : OffHolds O) {h0 : Heap} {c fc : List V} {lf l : List (List V)} {S : List Int} {a b f d x y z w nd : V} (hc : c = [a, b, f, d]) (h1 : allOne c = true) (hf : FnsS h0 f lf S) (hfc : fc = [x, y, z, w, nd]) (h1f : allOne fc = true) (hn : RS h0 2 nd l) (hl : l.length ≤ 2097152) (hnc : ∀ c ∈ l, NeedC c) :
    WPc tab.get O 12 [.agg c, .agg fc] h0 (fun v h' => v = .bool (l.all (needC S)) ∧ Ext h0 h') := by
  subst hc hfc
  refine w_fn' (hO.hd _ _) rfl rfl (by simp only [c12, initV, nth] <;> rfl) ?_
  refine w_seq (w_reg (w_box rfl rfl h1 fun im h2 hm him hE => ?_))
  refine w_box rfl rfl h1f fun iF h3 ho hif hE3 => ?_
  replace hm := hm.ext0 hE3
  replace hf := (hf.ext hE).ext hE3
  replace hn := (hn.ext0 hE).ext0 hE3
  repeat' (first
    | refine w_seq ?_
    | refine w_reg ?_
    | refine w_end (by simp only [outsV, nth, setV, List.take_succ_cons, List.take_zero, List.length_cons, List.length_nil, Nat.zero_add, Nat.reduceAdd] <;> rfl) ?_
    | refine w_off rfl ?_
    | refine w_rf rfl (by assumption) (by rfl) (by rfl) (by rfl) ?_
    | refine w_rfg rfl rfl (by assumption) (by rfl) (by rfl) (by rfl) (by rfl) ?_
    | refine w_on rfl ?_
    | refine w_len rfl (by assumption) ?_
    | refine w_lssN rfl rfl (fun hc => ?_) (fun hc => ?_)
    | refine w_leqN rfl rfl (fun hc => ?_) (fun hc => ?_)
    | refine w_gtrN rfl rfl (fun hc => ?_) (fun hc => ?_)
    | refine w_geqN rfl rfl (fun hc => ?_) (fun hc => ?_)
    | refine w_eqlN rfl rfl (fun hc => ?_) (fun hc => ?_)
    | refine w_neqN rfl rfl (fun hc => ?_) (fun hc => ?_)
    | refine w_lss rfl rfl (fun hc => ?_) (fun hc => ?_)
    | refine w_leq rfl rfl (fun hc => ?_) (fun hc => ?_)
    | refine w_gtr rfl rfl (fun hc => ?_) (fun hc => ?_)
    | refine w_geq rfl rfl (fun hc => ?_) (fun hc => ?_)
    | refine w_eql rfl rfl (fun hc => ?_) (fun hc => ?_)
    | refine w_neq rfl rfl (fun hc => ?_) (fun hc => ?_)
    | refine w_addN rfl rfl (by omega) ?_
    | refine w_opk rfl rfl ?_
    | refine w_cond_t rfl ?_
    | refine w_cond_f rfl ?_
    | refine w_skip ?_
    | refine w_exit rfl ?_
    | refine w_ret ?_
    | refine w_rt rfl ?_)
  refine w_call rfl ((containsNeed_ok (P := fun j => match l[j]? with | some c => !needC S c | none => false) hO hn hl (fun c hc => by obtain ⟨n, s, rfl⟩ := hnc c hc; rfl) (fun j hj h hEh => ?_)).mono fun v h4 ⟨⟨b', hv, hb⟩, hE4⟩ => ?_)
  · obtain ⟨n, s, hns⟩ := hnc _ (List.getElem_mem hj)
    have h := holds1_ok (n := n) (s := s) hO h1 (hm.ext0 hEh) (hf.ext hEh)
    have e1 : (match l[j]? with | some c => !needC S c | none => false) = !needOk S n s := by
      rw [List.getElem?_eq_getElem hj, hns]; rfl
    rw [e1, hns]
    exact h
  · subst hv
    repeat' (first
      | refine w_seq ?_
      | refine w_reg ?_
      | refine w_end (by simp only [outsV, nth, setV, List.take_succ_cons, List.take_zero, List.length_cons, List.length_nil, Nat.zero_add, Nat.reduceAdd] <;> rfl) ?_
      | refine w_off rfl ?_
      | refine w_rf rfl (by assumption) (by rfl) (by rfl) (by rfl) ?_
      | refine w_rfg rfl rfl (by assumption) (by rfl) (by rfl) (by rfl) (by rfl) ?_
      | refine w_on rfl ?_
      | refine w_len rfl (by assumption) ?_
      | refine w_lssN rfl rfl (fun hc => ?_) (fun hc => ?_)
      | refine w_leqN rfl rfl (fun hc => ?_) (fun hc => ?_)
      | refine w_gtrN rfl rfl (fun hc => ?_) (fun hc => ?_)
      | refine w_geqN rfl rfl (fun hc => ?_) (fun hc => ?_)
      | refine w_eqlN rfl rfl (fun hc => ?_) (fun hc => ?_)
      | refine w_neqN rfl rfl (fun hc => ?_) (fun hc => ?_)
      | refine w_lss rfl rfl (fun hc => ?_) (fun hc => ?_)
      | refine w_leq rfl rfl (fun hc => ?_) (fun hc => ?_)
      | refine w_gtr rfl rfl (fun hc => ?_) (fun hc => ?_)
      | refine w_geq rfl rfl (fun hc => ?_) (fun hc => ?_)
      | refine w_eql rfl rfl (fun hc => ?_) (fun hc => ?_)
      | refine w_neq rfl rfl (fun hc => ?_) (fun hc => ?_)
      | refine w_addN rfl rfl (by omega) ?_
      | refine w_opk rfl rfl ?_
      | refine w_cond_t rfl ?_
      | refine w_cond_f rfl ?_
      | refine w_skip ?_
      | refine w_exit rfl ?_
      | refine w_ret ?_
      | refine w_rt rfl ?_)
    refine ⟨?_, (hE.trans hE3).trans hE4⟩
    have e2 : (!b') = l.all (needC S) := by
      rw [Bool.eq_iff_iff, List.all_eq_true]
      constructor
      · intro hb' c hc
        obtain ⟨j, hj, rfl⟩ := List.mem_iff_getElem.1 hc
        cases hx : needC S l[j] with
        | true => rfl
        | false =>
          have : b' = true := hb.2 ⟨j, hj, by simp [List.getElem?_eq_getElem hj, hx]⟩
          rw [this] at hb'; cases hb'
      · intro h
        cases hb2 : b' with
        | false => rfl
        | true =>
          obtain ⟨j, hj, hx⟩ := hb.1 hb2
          rw [List.getElem?_eq_getElem hj] at hx
          simp [h _ (List.getElem_mem hj)] at hx
    rw [← e2]; rfl
end AmT
