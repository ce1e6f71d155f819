/-
  The document's order of values tells apart right values that are not the same. Conditions: the values are right.
-/
import Derived.Test.YtncbfghlokfmeaaGreatDoorOffVals
import Derived.Test.YtncbfghlokfmeaaGreatDoorVPut2
namespace AmT
open Go Am
set_option maxRecDepth 100000
set_option maxHeartbeats 8000000
set_option linter.unusedSimpArgs false
set_option linter.unusedVariables false
variable {O : CallF}

theorem order2_ok (hO : OffVals O) {h0 : Heap} {a b : Int} : WPc tab.get O 159 [.int .i64 a, .int .i64 b] h0 (fun v h' => (∃ c : Int, v = .int .i64 c ∧ (c = 0 ↔ a = b)) ∧ h' = h0) := by
  refine w_fn' (hO.ord _ _) rfl rfl (by simp only [c159, initV, nth] <;> rfl) ?_
  repeat' (first | refine w_seq ?_ | refine w_reg ?_ | refine w_e ?_ | refine w_lss rfl rfl (fun hc => ?_) (fun hc => ?_) | refine w_gtr rfl rfl (fun hc => ?_) (fun hc => ?_) | refine w_opk rfl rfl ?_ | refine w_cond_t rfl ?_ | refine w_cond_f rfl ?_ | refine w_skip ?_ | refine w_ret ?_ | refine w_rt rfl ?_)
  · exact ⟨⟨_, rfl, fun h => absurd h (by decide), fun h => by omega⟩, rfl⟩
  · exact ⟨⟨_, rfl, fun h => absurd h (by decide), fun h => by omega⟩, rfl⟩
  · exact ⟨⟨0, rfl, fun _ => by omega, fun _ => rfl⟩, rfl⟩

theorem take_succ_eq {α : Type} {l m : List α} {i : Nat} (h : l.take i = m.take i) (hi : i < l.length) (hj : i < m.length) (e : l[i] = m[i]) : l.take (i + 1) = m.take (i + 1) := by
  rw [← List.take_append_getElem hi, ← List.take_append_getElem hj, h, e]
theorem get_of_eq {α : Type} {l m : List α} {i : Nat} (e : l = m) (hi : i < l.length) (hj : i < m.length) : l[i] = m[i] := by
  subst e; rfl

theorem cmp_diff (hO : OffVals O) {Z Z' : Nat → Prop} {h0 : Heap} {k n k2 n2 : Int} {s s2 : List UInt8} {l l2 : List Val} {c d : List V} {lv : Int} (ha : VaR Z h0 (.mk k n s l) c) (hb : VaR Z' h0 (.mk k2 n2 s2 l2) d) (hk1 : 0 ≤ k ∧ k ≤ 5) (hk2 : 0 ≤ k2 ∧ k2 ≤ 5) (hd : k ≠ k2) :
    WPc tab.get O 126 [.agg c, .agg d, .int .i64 lv] h0 (fun v h' => (∃ c : Int, v = .int .i64 c ∧ c ≠ 0) ∧ Ext h0 h') := by
  refine w_fn' (hO.cmp _ _) rfl rfl (by simp only [c126, initV, nth] <;> rfl) ?_
  have sa := ha.shape
  have sb := hb.shape
  refine w_seq (w_reg (w_box rfl sa.1 sa.2 fun iA h1 hA hiA hE1 => ?_))
  refine w_box rfl sb.1 sb.2 fun iB h2 hB hiB hE2 => ?_
  have E2 := hE1.trans hE2
  replace hA := hA.ext0 hE2
  unfold VaR at ha hb
  obtain ⟨v, lc, rfl, rv, va⟩ := ha
  obtain ⟨w, ld, rfl, rw_, vb⟩ := hb
  have w1 : IntKind.i64.wrap k = k := by
    obtain ⟨n, rfl⟩ := Int.eq_ofNat_of_zero_le hk1.1
    exact wrap_i64_nat (by have := hk1.2; omega)
  have w2 : IntKind.i64.wrap k2 = k2 := by
    obtain ⟨n, rfl⟩ := Int.eq_ofNat_of_zero_le hk2.1
    exact wrap_i64_nat (by have := hk2.2; omega)
  repeat' (first | refine w_seq ?_ | refine w_reg ?_ | refine w_e ?_ | refine w_rf rfl (by assumption) (by rfl) (by rfl) (by rfl) ?_ | refine w_opq rfl rfl ?_)
  refine w_toI rfl w1 ?_
  repeat' (first | refine w_rf rfl (by assumption) (by rfl) (by rfl) (by rfl) ?_)
  refine w_toI rfl w2 ?_
  refine w_call rfl ((order2_ok hO).mono fun _ h3 ⟨⟨x, e1, e2⟩, e3⟩ => ?_)
  have hx : x ≠ 0 := fun e => hd (e2.1 e)
  subst e1 e3
  repeat' (first | refine w_seq ?_ | refine w_reg ?_ | refine w_e ?_ | refine w_off rfl ?_ | refine w_rf rfl (by assumption) (by rfl) (by rfl) (by rfl) ?_ | refine w_on rfl ?_ | refine w_lss rfl rfl (fun hc => ?_) (fun hc => ?_) | refine w_neq rfl rfl (fun hc => ?_) (fun hc => ?_) | refine w_opk rfl rfl ?_ | refine w_cond_t rfl ?_ | refine w_cond_f rfl ?_ | refine w_skip ?_ | refine w_ret ?_ | refine w_rt rfl ?_)
  all_goals first
    | exact absurd (show x = 0 by assumption) hx
    | exact ⟨⟨x, rfl, hx⟩, E2⟩

theorem cmp_num (hO : OffVals O) {Z Z' : Nat → Prop} {h0 : Heap} {k n n2 : Int} {c d : List V} {lv : Nat} (ha : VaR Z h0 (.mk k n [] []) c) (hb : VaR Z' h0 (.mk k n2 [] []) d) (hk : k = 1 ∨ k = 2 ∨ k = 5) (hl : 0 < lv) :
    WPc tab.get O 126 [.agg c, .agg d, .int .i64 (.ofNat lv)] h0 (fun v h' => (∃ c : Int, v = .int .i64 c ∧ (c = 0 ↔ n = n2)) ∧ Ext h0 h') := by
  refine w_fn' (hO.cmp _ _) rfl rfl (by simp only [c126, initV, nth] <;> rfl) ?_
  have sa := ha.shape
  have sb := hb.shape
  refine w_seq (w_reg (w_box rfl sa.1 sa.2 fun iA h1 hA hiA hE1 => ?_))
  refine w_box rfl sb.1 sb.2 fun iB h2 hB hiB hE2 => ?_
  have E2 := hE1.trans hE2
  replace hA := hA.ext0 hE2
  unfold VaR at ha hb
  obtain ⟨v, lc, rfl, rv, va⟩ := ha
  obtain ⟨w, ld, rfl, rw_, vb⟩ := hb
  rcases hk with rfl | rfl | rfl
  all_goals (repeat' (first | refine w_seq ?_ | refine w_reg ?_ | refine w_e ?_ | refine w_rf rfl (by assumption) (by rfl) (by rfl) (by rfl) ?_ | refine w_opk rfl rfl ?_))
  all_goals
    refine w_call rfl ((order2_ok hO).mono fun _ h3 ⟨⟨x, e1, e2⟩, e3⟩ => ?_)
    obtain rfl : x = 0 := e2.2 rfl
    subst e1 e3
  all_goals (repeat' (first | refine w_seq ?_ | refine w_reg ?_ | refine w_e ?_ | refine w_off rfl ?_ | refine w_rf rfl (by assumption) (by rfl) (by rfl) (by rfl) ?_ | refine w_on rfl ?_ | refine w_lssN rfl rfl (fun hc => ?_) (fun hc => ?_) | refine w_neqN rfl rfl (fun hc => ?_) (fun hc => ?_) | refine w_opk rfl rfl ?_ | refine w_cond_t rfl ?_ | refine w_cond_f rfl ?_ | refine w_skip ?_ | refine w_ret ?_ | refine w_rt rfl ?_))
  all_goals first
    | exact absurd rfl (by assumption)
    | (exfalso; omega)
    | skip
  all_goals refine w_block ?_
  all_goals (repeat' (first | refine w_seq ?_ | refine w_reg ?_ | refine w_e ?_ | refine w_rf rfl (by assumption) (by rfl) (by rfl) (by rfl) ?_ | refine w_opk rfl rfl ?_ | refine w_cond_t rfl ?_ | refine w_cond_f rfl ?_ | refine w_skip ?_))
  all_goals
    refine w_call rfl ((order2_ok hO).mono fun _ h4 ⟨⟨y, e1, e4⟩, e3⟩ => ?_)
    subst e1 e3
  all_goals (repeat' (first | refine w_e ?_ | refine w_opk rfl rfl ?_ | refine w_ret ?_ | refine w_rt rfl ?_))
  all_goals exact ⟨⟨y, rfl, e4⟩, E2⟩

theorem u8_int {a b : UInt8} (h : (a.toNat : Int) = (b.toNat : Int)) : a = b := UInt8.toNat_inj.1 (by omega)

theorem cmp_bytes (hO : OffVals O) {Z Z' : Nat → Prop} {h0 : Heap} {n n2 : Int} {s s2 : List UInt8} {l l2 : List Val} {c d : List V} {lv : Nat} (ha : VaR Z h0 (.mk 3 n s l) c) (hb : VaR Z' h0 (.mk 3 n2 s2 l2) d) (hs1 : s.length ≤ 4096) (hs2 : s2.length ≤ 4096) (hl : 0 < lv) :
    WPc tab.get O 126 [.agg c, .agg d, .int .i64 (.ofNat lv)] h0 (fun v h' => (∃ c : Int, v = .int .i64 c ∧ (c = 0 ↔ s = s2)) ∧ Ext h0 h') := by
  refine w_fn' (hO.cmp _ _) rfl rfl (by simp only [c126, initV, nth] <;> rfl) ?_
  have sa := ha.shape
  have sb := hb.shape
  refine w_seq (w_reg (w_box rfl sa.1 sa.2 fun iA h1 hA hiA hE1 => ?_))
  refine w_box rfl sb.1 sb.2 fun iB h2 hB hiB hE2 => ?_
  have E2 := hE1.trans hE2
  replace hA := hA.ext0 hE2
  unfold VaR at ha hb
  obtain ⟨v, lc, rfl, rv, va⟩ := ha
  obtain ⟨w, ld, rfl, rw_, vb⟩ := hb
  repeat' (first | refine w_seq ?_ | refine w_reg ?_ | refine w_e ?_ | refine w_rf rfl (by assumption) (by rfl) (by rfl) (by rfl) ?_ | refine w_opk rfl rfl ?_)
  refine w_call rfl ((order2_ok hO).mono fun _ h3 ⟨⟨x, e1, e2⟩, e3⟩ => ?_)
  obtain rfl : x = 0 := e2.2 rfl
  subst e1 e3
  repeat' (first | refine w_seq ?_ | refine w_reg ?_ | refine w_e ?_ | refine w_off rfl ?_ | refine w_rf rfl (by assumption) (by rfl) (by rfl) (by rfl) ?_ | refine w_on rfl ?_ | refine w_lssN rfl rfl (fun hc => ?_) (fun hc => ?_) | refine w_neqN rfl rfl (fun hc => ?_) (fun hc => ?_) | refine w_opk rfl rfl ?_ | refine w_cond_t rfl ?_ | refine w_cond_f rfl ?_ | refine w_skip ?_ | refine w_ret ?_ | refine w_rt rfl ?_)
  all_goals first
    | exact absurd rfl (by assumption)
    | (exfalso; omega)
    | skip
  refine w_block ?_
  repeat' (first | refine w_seq ?_ | refine w_reg ?_ | refine w_e ?_ | refine w_opk rfl rfl ?_ | refine w_cond_t rfl ?_ | refine w_cond_f rfl ?_)
  refine w_count (fun j vs h => h = h3 ∧ s.take j = s2.take j ∧ j ≤ s2.length ∧ ∃ b9 b10 b12 b13, vs = [.agg [.int .u8 3, .int .i64 n, .str s, v], .agg [.int .u8 3, .int .i64 n2, .str s2, w], .int .i64 (.ofNat lv), .int .i64 (.ofNat 0), .ptr iA 0 0 4, .ptr iB 0 0 4, .int .i64 0, .bool false, .int .u8 3, b9, b10, .int .i64 (.ofNat j), b12, b13, .any, .any, .any, .any]) s.length ⟨rfl, by simp, Nat.zero_le _, _, _, _, _, rfl⟩ ?_
  rintro j vs h hj ⟨rfl, htk, hj2, b9, b10, b12, b13, rfl⟩
  repeat' (first | refine w_seq ?_ | refine w_reg ?_ | refine w_e ?_ | refine w_off rfl ?_ | refine w_rf rfl (by assumption) (by rfl) (by rfl) (by rfl) ?_ | refine w_rfg rfl rfl (by assumption) (by rfl) (by rfl) (by rfl) (by rfl) ?_ | refine w_on rfl ?_ | refine w_lssN rfl rfl (fun hc => ?_) (fun hc => ?_) | refine w_opk rfl rfl ?_ | refine w_cond_t rfl ?_ | refine w_cond_f rfl ?_ | refine w_skip ?_ | refine w_exit rfl ?_)
  · have hjs : j < s.length := by assumption
    have hjs2 : j < s2.length := by assumption
    refine w_block ?_
    repeat' (first | refine w_seq ?_ | refine w_reg ?_ | refine w_rf rfl (by assumption) (by rfl) (by rfl) (by rfl) ?_ | refine w_opk rfl rfl ?_)
    refine w_idxS rfl rfl hjs ?_
    repeat' (first | refine w_rf rfl (by assumption) (by rfl) (by rfl) (by rfl) ?_ | refine w_opk rfl rfl ?_)
    refine w_idxS rfl rfl hjs2 ?_
    repeat' (first | refine w_seq ?_ | refine w_reg ?_ | refine w_e ?_ | refine w_rf rfl (by assumption) (by rfl) (by rfl) (by rfl) ?_ | refine w_neqN rfl rfl (fun hc => ?_) (fun hc => ?_) | refine w_addN rfl rfl (by omega) ?_ | refine w_opq rfl rfl ?_ | refine w_cond_t rfl ?_ | refine w_cond_f rfl ?_ | refine w_skip ?_)
    · have hne : s[j].toNat ≠ s2[j].toNat := by assumption
      refine w_idxS rfl rfl hjs ?_
      refine w_toI (b := .ofNat s[j].toNat) rfl (wrap_i64_nat (by have := s[j].toNat_lt; omega)) ?_
      repeat' (first | refine w_rf rfl (by assumption) (by rfl) (by rfl) (by rfl) ?_ | refine w_opq rfl rfl ?_)
      refine w_idxS rfl rfl hjs2 ?_
      refine w_toI (b := .ofNat s2[j].toNat) rfl (wrap_i64_nat (by have := s2[j].toNat_lt; omega)) ?_
      refine w_call rfl ((order2_ok hO).mono fun _ h4 ⟨⟨y, e1, e4⟩, e3⟩ => ?_)
      subst e1 e3
      repeat' (first | refine w_e ?_ | refine w_opk rfl rfl ?_ | refine w_ret ?_ | refine w_rt rfl ?_)
      refine ⟨⟨y, rfl, ?_⟩, E2⟩
      rw [e4]
      constructor
      · intro h
        have : ((s[j].toNat : Nat) : Int) = ((s2[j].toNat : Nat) : Int) := h
        omega
      · rintro rfl; rfl
    · have heq : s[j].toNat = s2[j].toNat := by assumption
      exact ⟨hjs, rfl, take_succ_eq htk hjs hjs2 (UInt8.toNat_inj.1 heq), by omega, _, _, _, _, rfl⟩
  · have hjs : j < s.length := by assumption
    have hjs2 : s2.length ≤ j := by assumption
    refine w_call rfl ((order2_ok hO).mono fun _ h4 ⟨⟨y, e1, e4⟩, e3⟩ => ?_)
    subst e1 e3
    repeat' (first | refine w_e ?_ | refine w_opk rfl rfl ?_ | refine w_ret ?_ | refine w_rt rfl ?_)
    refine ⟨⟨y, rfl, ?_⟩, E2⟩
    rw [e4]
    constructor
    · intro h
      have : ((s.length : Nat) : Int) = ((s2.length : Nat) : Int) := h
      omega
    · rintro rfl; rfl
  · have hjs : s.length ≤ j := by assumption
    refine w_call rfl ((order2_ok hO).mono fun _ h4 ⟨⟨y, e1, e4⟩, e3⟩ => ?_)
    subst e1 e3
    repeat' (first | refine w_e ?_ | refine w_opk rfl rfl ?_ | refine w_ret ?_ | refine w_rt rfl ?_)
    refine ⟨⟨y, rfl, ?_⟩, E2⟩
    rw [e4]
    constructor
    · intro h
      have h' : ((s.length : Nat) : Int) = ((s2.length : Nat) : Int) := h
      rw [List.take_of_length_le hjs, List.take_of_length_le (by omega)] at htk
      exact htk
    · rintro rfl; rfl

theorem cmp_tuple (hO : OffVals O) {Z Z' : Nat → Prop} {h0 : Heap} {n n2 : Int} {s s2 : List UInt8} {l l2 : List Val} {c d : List V} {lv : Nat} (ha : VaR Z h0 (.mk 4 n s l) c) (hb : VaR Z' h0 (.mk 4 n2 s2 l2) d) (hl1 : l.length ≤ 256) (hl2 : l2.length ≤ 256) (hlv : lv < 16)
    (ih : ∀ a ∈ l, ∀ b ∈ l2, ∀ {h1 : Heap} {ca cb : List V}, VaR Z h1 a ca → VaR Z' h1 b cb → WPc tab.get O 126 [.agg ca, .agg cb, .int .i64 (.ofNat lv)] h1 (fun v h' => (∃ c : Int, v = .int .i64 c ∧ (c = 0 ↔ a = b)) ∧ Ext h1 h')) :
    WPc tab.get O 126 [.agg c, .agg d, .int .i64 (.ofNat (lv + 1))] h0 (fun v h' => (∃ c : Int, v = .int .i64 c ∧ (c = 0 ↔ l = l2)) ∧ Ext h0 h') := by
  refine w_fn' (hO.cmp _ _) rfl rfl (by simp only [c126, initV, nth] <;> rfl) ?_
  have sa := ha.shape
  have sb := hb.shape
  refine w_seq (w_reg (w_box rfl sa.1 sa.2 fun iA h1 hA hiA hE1 => ?_))
  refine w_box rfl sb.1 sb.2 fun iB h2 hB hiB hE2 => ?_
  have E2 := hE1.trans hE2
  replace hA := hA.ext0 hE2
  unfold VaR at ha hb
  obtain ⟨v, lc, rfl, rv, va⟩ := ha
  obtain ⟨w, ld, rfl, rw_, vb⟩ := hb
  have ra := rv.1.ext0 E2
  have rb := rw_.1.ext0 E2
  have la := va.len
  have lb := vb.len
  repeat' (first | refine w_seq ?_ | refine w_reg ?_ | refine w_e ?_ | refine w_rf rfl (by assumption) (by rfl) (by rfl) (by rfl) ?_ | refine w_opk rfl rfl ?_)
  refine w_call rfl ((order2_ok hO).mono fun _ h3 ⟨⟨x, e1, e2⟩, e3⟩ => ?_)
  obtain rfl : x = 0 := e2.2 rfl
  subst e1 e3
  repeat' (first | refine w_seq ?_ | refine w_reg ?_ | refine w_e ?_ | refine w_off rfl ?_ | refine w_rf rfl (by assumption) (by rfl) (by rfl) (by rfl) ?_ | refine w_on rfl ?_ | refine w_lssN rfl rfl (fun hc => ?_) (fun hc => ?_) | refine w_neqN rfl rfl (fun hc => ?_) (fun hc => ?_) | refine w_opk rfl rfl ?_ | refine w_cond_t rfl ?_ | refine w_cond_f rfl ?_ | refine w_skip ?_ | refine w_ret ?_ | refine w_rt rfl ?_)
  all_goals first
    | exact absurd rfl (by assumption)
    | (exfalso; omega)
    | skip
  refine w_block ?_
  repeat' (first | refine w_seq ?_ | refine w_reg ?_ | refine w_e ?_ | refine w_rf rfl (by assumption) (by rfl) (by rfl) (by rfl) ?_ | refine w_len rfl (by assumption) ?_ | refine w_opk rfl rfl ?_ | refine w_cond_t rfl ?_ | refine w_cond_f rfl ?_)
  refine w_call rfl ((order2_ok hO).mono fun _ h4 ⟨⟨y0, e1, e4⟩, e3⟩ => ?_)
  subst e1 e3
  have hy0 : y0 = 0 ↔ l.length = l2.length := by
    rw [e4, la, lb]
    show ((l.length : Nat) : Int) = ((l2.length : Nat) : Int) ↔ _
    omega
  repeat' (first | refine w_seq ?_ | refine w_reg ?_ | refine w_e ?_ | refine w_opk rfl rfl ?_)
  refine w_count (fun j vs h => Ext h4 h ∧ ∃ b9 b10 b14 y b17, vs = [.agg [.int .u8 4, .int .i64 n, .str s, v], .agg [.int .u8 4, .int .i64 n2, .str s2, w], .int .i64 (.ofNat (lv + 1)), .int .i64 (.ofNat 0), .ptr iA 0 0 4, .ptr iB 0 0 4, .int .i64 0, .bool false, .int .u8 4, b9, b10, .any, .any, .any, b14, .int .i64 y, .int .i64 (.ofNat j), b17] ∧ ((y = 0 ∧ l.length = l2.length ∧ l.take j = l2.take j) ∨ (y ≠ 0 ∧ l ≠ l2))) lc.length ⟨ExtX.refl _ _, _, _, _, y0, _, rfl, ?_⟩ ?_
  · by_cases h : y0 = 0
    · exact .inl ⟨h, hy0.1 h, by simp⟩
    · exact .inr ⟨h, fun e => h (hy0.2 (by rw [e]))⟩
  rintro j vs h hj ⟨hE, b9, b10, b14, y, b17, rfl, hy⟩
  have hA' := hA.ext0 hE
  have hB' := hB.ext0 hE
  have ra' := ra.ext0 hE
  have rb' := rb.ext0 hE
  have EE := E2.trans hE
  rcases hy with ⟨rfl, hll, htk⟩ | ⟨hy, hne⟩
  · repeat' (first | refine w_seq ?_ | refine w_reg ?_ | refine w_e ?_ | refine w_off rfl ?_ | refine w_rfg rfl rfl (by assumption) (by rfl) (by rfl) (by rfl) (by rfl) ?_ | refine w_on rfl ?_ | refine w_len rfl (by assumption) ?_ | refine w_lssN rfl rfl (fun hc => ?_) (fun hc => ?_) | refine w_eqlN rfl rfl (fun hc => ?_) (fun hc => ?_) | refine w_opk rfl rfl ?_ | refine w_cond_t rfl ?_ | refine w_cond_f rfl ?_ | refine w_skip ?_ | refine w_exit rfl ?_ | refine w_ret ?_ | refine w_rt rfl ?_)
    all_goals first
      | exact absurd rfl (by assumption)
      | skip
    · have hj1 : j < lc.length := by assumption
      have hj2 : j < l.length := by omega
      have hj3 : j < l2.length := by omega
      have hj4 : j < ld.length := by omega
      have ka := (va.get hj2 hj1).ext0 EE
      have kb := (vb.get hj3 hj4).ext0 EE
      have s1 := ka.shape
      have s2' := kb.shape
      refine w_block ?_
      repeat' (first | refine w_reg ?_ | refine w_rf rfl (by assumption) (by rfl) (by rfl) (by rfl) ?_ | refine w_opk rfl rfl ?_)
      refine w_iadrS rfl rfl ra' hj1 ?_
      refine w_loadA rfl (slot_at ra' hj1) (by rw [s1.1]; rfl) ?_
      repeat' (first | refine w_rf rfl (by assumption) (by rfl) (by rfl) (by rfl) ?_ | refine w_opk rfl rfl ?_)
      refine w_iadrS rfl rfl rb' hj4 ?_
      refine w_loadA rfl (slot_at rb' hj4) (by rw [s2'.1]; rfl) ?_
      rw [show List.take 4 lc[j] = lc[j] from List.take_of_length_le (by omega), show List.take 4 ld[j] = ld[j] from List.take_of_length_le (by omega)]
      repeat' (first | refine w_opq rfl rfl ?_)
      refine w_subN (b := 1) rfl (by rfl) (by omega) (by omega) ?_
      refine w_callA [.agg lc[j], .agg ld[j], .int .i64 (.ofNat lv)] rfl ((ih _ (List.getElem_mem hj2) _ (List.getElem_mem hj3) ka kb).mono fun _ h5 ⟨⟨y, e1, e5⟩, hE5⟩ => ?_)
      subst e1
      repeat' (first | refine w_reg ?_ | refine w_e ?_ | refine w_addN rfl rfl (by omega) ?_ | refine w_opk rfl rfl ?_)
      refine ⟨hj1, hE.trans hE5, _, _, _, y, _, rfl, ?_⟩
      by_cases h : y = 0
      · exact .inl ⟨h, hll, take_succ_eq htk hj2 hj3 (e5.1 h)⟩
      · exact .inr ⟨h, fun e => h (e5.2 (get_of_eq e hj2 hj3))⟩
    · have hj1 : lc.length ≤ j := by assumption
      rw [List.take_of_length_le (by omega), List.take_of_length_le (by omega)] at htk
      exact ⟨⟨0, rfl, fun _ => htk, fun _ => rfl⟩, EE⟩
  · repeat' (first | refine w_seq ?_ | refine w_reg ?_ | refine w_e ?_ | refine w_off rfl ?_ | refine w_rfg rfl rfl (by assumption) (by rfl) (by rfl) (by rfl) (by rfl) ?_ | refine w_on rfl ?_ | refine w_len rfl (by assumption) ?_ | refine w_lssN rfl rfl (fun hc => ?_) (fun hc => ?_) | refine w_eql rfl rfl (fun hc => ?_) (fun hc => ?_) | refine w_opk rfl rfl ?_ | refine w_cond_t rfl ?_ | refine w_cond_f rfl ?_ | refine w_skip ?_ | refine w_exit rfl ?_ | refine w_ret ?_ | refine w_rt rfl ?_)
    all_goals first
      | exact absurd (show y = 0 by assumption) hy
      | exact ⟨⟨y, rfl, fun h => absurd h hy, fun h => absurd h hne⟩, EE⟩

/-- Of right values. -/
theorem cmp_ok (hO : OffVals O) {Z Z' : Nat → Prop} : ∀ (m : Nat) (a b : Val) {lv : Nat} {h0 : Heap} {c d : List V}, sizeOf a < m → VaR Z h0 a c → VaR Z' h0 b d → okV lv a → okV lv b → pcs a ≤ 256 → pcs b ≤ 256 → lv ≤ 16 →
    WPc tab.get O 126 [.agg c, .agg d, .int .i64 (.ofNat lv)] h0 (fun v h' => (∃ x : Int, v = .int .i64 x ∧ (x = 0 ↔ a = b)) ∧ Ext h0 h')
  | 0, a, _, _, _, _, _, hm, _, _, _, _, _, _, _ => absurd hm (Nat.not_lt_zero _)
  | m + 1, .mk k n s l, .mk k2 n2 s2 l2, lv, h0, c, d, hm, ha, hb, ka, kb, pa, pb, hlv => by
    have hk : 0 ≤ k ∧ k ≤ 5 := by unfold okV at ka; rcases ka.2 with h | h | h | h | h <;> (have := h.1; omega)
    have hk2 : 0 ≤ k2 ∧ k2 ≤ 5 := by unfold okV at kb; rcases kb.2 with h | h | h | h | h <;> (have := h.1; omega)
    by_cases hd : k = k2
    · subst hd
      have hpl : pcs (.mk k n s l) = 1 + pcss l := rfl
      have hpl2 : pcs (.mk k n2 s2 l2) = 1 + pcss l2 := rfl
      have hll := pcss_len l
      have hll2 := pcss_len l2
      unfold okV at ka kb
      by_cases h4 : k = 4
      · subst h4
        have q : n = 0 ∧ s = [] ∧ okVs (lv - 1) l := by
          rcases ka.2 with h | h | h | h | h
          · exact absurd h.1 (by decide)
          · exact absurd h.1 (by decide)
          · exact absurd h.1 (by decide)
          · exact h.2
          · exact absurd h.1 (by decide)
        have q2 : n2 = 0 ∧ s2 = [] ∧ okVs (lv - 1) l2 := by
          rcases kb.2 with h | h | h | h | h
          · exact absurd h.1 (by decide)
          · exact absurd h.1 (by decide)
          · exact absurd h.1 (by decide)
          · exact h.2
          · exact absurd h.1 (by decide)
        obtain ⟨rfl, rfl, ql⟩ := q
        obtain ⟨rfl, rfl, ql2⟩ := q2
        obtain ⟨lv, rfl⟩ : ∃ x, lv = x + 1 := ⟨lv - 1, by omega⟩
        refine (cmp_tuple hO ha hb (by omega) (by omega) (by omega) fun a ha' b hb' h1 ca cb r1 r2 => cmp_ok hO m a b (by have := List.sizeOf_lt_of_mem ha'; simp only [Val.mk.sizeOf_spec] at hm; omega) r1 r2 (okVs_get ql a ha') (okVs_get ql2 b hb') (by have := pcss_mem ha'; omega) (by have := pcss_mem hb'; omega) (by omega)).mono fun v h' ⟨⟨x, e, ex⟩, hE⟩ => ⟨⟨x, e, ?_⟩, hE⟩
        rw [ex]
        simp
      · by_cases h3 : k = 3
        · subst h3
          have q : n = 0 ∧ s.length ≤ 4096 ∧ l = [] := by
            rcases ka.2 with h | h | h | h | h
            · exact absurd h.1 (by decide)
            · exact absurd h.1 (by decide)
            · exact h.2
            · exact absurd h.1 (by decide)
            · exact absurd h.1 (by decide)
          have q2 : n2 = 0 ∧ s2.length ≤ 4096 ∧ l2 = [] := by
            rcases kb.2 with h | h | h | h | h
            · exact absurd h.1 (by decide)
            · exact absurd h.1 (by decide)
            · exact h.2
            · exact absurd h.1 (by decide)
            · exact absurd h.1 (by decide)
          obtain ⟨rfl, qs, rfl⟩ := q
          obtain ⟨rfl, qs2, rfl⟩ := q2
          refine (cmp_bytes hO ha hb qs qs2 ka.1).mono fun v h' ⟨⟨x, e, ex⟩, hE⟩ => ⟨⟨x, e, ?_⟩, hE⟩
          rw [ex]
          simp
        · have q : (k = 1 ∨ k = 2 ∨ k = 5) ∧ s = [] ∧ l = [] := by
            rcases ka.2 with h | h | h | h | h
            · exact ⟨.inl h.1, h.2.2.2.1, h.2.2.2.2⟩
            · exact ⟨.inr (.inl h.1), h.2.2.1, h.2.2.2⟩
            · exact absurd h.1 h3
            · exact absurd h.1 h4
            · exact ⟨.inr (.inr h.1), h.2.2.2.1, h.2.2.2.2⟩
          have q2 : s2 = [] ∧ l2 = [] := by
            rcases kb.2 with h | h | h | h | h
            · exact ⟨h.2.2.2.1, h.2.2.2.2⟩
            · exact ⟨h.2.2.1, h.2.2.2⟩
            · exact absurd h.1 h3
            · exact absurd h.1 h4
            · exact ⟨h.2.2.2.1, h.2.2.2.2⟩
          obtain ⟨qk, rfl, rfl⟩ := q
          obtain ⟨rfl, rfl⟩ := q2
          refine (cmp_num hO ha hb qk ka.1).mono fun v h' ⟨⟨x, e, ex⟩, hE⟩ => ⟨⟨x, e, ?_⟩, hE⟩
          rw [ex]
          simp
    · refine (cmp_diff hO ha hb hk hk2 hd).mono fun v h' ⟨⟨x, e, ex⟩, hE⟩ => ⟨⟨x, e, ?_⟩, hE⟩
      constructor
      · intro h; exact absurd h ex
      · intro h
        simp only [Val.mk.injEq] at h
        exact absurd h.1 hd
end AmT
