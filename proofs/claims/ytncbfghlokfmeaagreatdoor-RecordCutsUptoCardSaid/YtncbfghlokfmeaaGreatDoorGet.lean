/-
  bytes.GetUint and bytes.GetInt: a number at a place, or an error. Conditions: the bytes are bytes, the place is not past them.
-/
import Derived.Test.YtncbfghlokfmeaaGreatDoorEnc
namespace AmT
open Go Am
set_option maxRecDepth 100000
set_option maxHeartbeats 4000000
set_option linter.unusedSimpArgs false
set_option linter.unusedVariables false
variable {O : CallF}

/-- What GetUint tells. -/
def GotU (n at_ : Nat) (v : V) (o : Option (Nat × List Nat)) : Prop :=
  match o with
  | some (m, r) => v = .tuple [.int .u64 (.ofNat m), .int .i64 (.ofNat (n - r.length)), .int .i64 0] ∧ m < 18446744073709551616 ∧ r.length ≤ n
  | none => ∃ e : Int, e ≠ 0 ∧ v = .tuple [.int .u64 0, .int .i64 0, .int .i64 e]

theorem sh_bound {i x acc : Nat} (hi : i ≤ 9) (hx : x < 256) (hacc : acc < 2 ^ (7 * i)) (h9 : i = 9 → x ≤ 1) : x % 128 * 2 ^ (7 * i) < 18446744073709551616 ∧ acc + x % 128 * 2 ^ (7 * i) < 18446744073709551616 := by
  have hp : (2 : Nat) ^ (7 * i) ≤ 2 ^ 63 := Nat.pow_le_pow_right (by decide) (by omega)
  rcases Nat.lt_or_ge i 9 with h | h
  · have h8 : (2 : Nat) ^ (7 * i) ≤ 2 ^ 56 := Nat.pow_le_pow_right (by decide) (by omega)
    have h7 : x % 128 * 2 ^ (7 * i) ≤ 127 * 2 ^ 56 := Nat.mul_le_mul (by omega) h8
    omega
  · have := h9 (by omega)
    have h7 : x % 128 * 2 ^ (7 * i) ≤ 1 * 2 ^ 63 := Nat.mul_le_mul (by omega) hp
    omega

def shiftD (i acc : Nat) : Option (Nat × List Nat) → Option (Nat × List Nat)
  | none => none
  | some (m, r) => some (acc + 128 ^ i * m, r)

theorem pow128 (i : Nat) : (128 : Nat) ^ i = 2 ^ (7 * i) := by rw [show (128 : Nat) = 2 ^ 7 from rfl, ← Nat.pow_mul]

theorem dU_lt {i x acc : Nat} {r : List Nat} (hi : i ≤ 9) (hx : x < 128) (h9 : i = 9 → x ≤ 1) (h0 : x = 0 → i = 0) : shiftD i acc (dU (9 - i) (decide (i = 0)) (x :: r)) = some (acc + x % 128 * 2 ^ (7 * i), r) := by
  have e : x % 128 = x := Nat.mod_eq_of_lt hx
  have hz : ¬ (x = 0 ∧ decide (i = 0) = false) := by
    rintro ⟨h1, h2⟩
    have := h0 h1
    simp [this] at h2
  rcases Nat.lt_or_ge i 9 with h | h
  · obtain ⟨k, hk⟩ : ∃ k, 9 - i = k + 1 := ⟨8 - i, by omega⟩
    rw [hk]
    simp only [dU]
    rw [if_neg hz, if_pos hx]
    simp only [shiftD, e, pow128, Nat.mul_comm]
  · rw [show 9 - i = 0 by omega]
    simp only [dU]
    rw [if_neg (by rintro (h1 | h1); have := h9 (by omega); omega; exact hz h1)]
    simp only [shiftD, e, pow128, Nat.mul_comm]

theorem dU_ge {i x acc : Nat} {r : List Nat} (hi : i ≤ 8) (hx : 128 ≤ x) (hx2 : x < 256) : shiftD i acc (dU (9 - i) (decide (i = 0)) (x :: r)) = shiftD (i + 1) (acc + x % 128 * 2 ^ (7 * i)) (dU (9 - (i + 1)) (decide (i + 1 = 0)) r) := by
  obtain ⟨k, hk⟩ : ∃ k, 9 - i = k + 1 := ⟨8 - i, by omega⟩
  have hk2 : 9 - (i + 1) = k := by omega
  have e0 : decide (i + 1 = 0) = false := decide_eq_false (by omega)
  rw [hk, hk2, e0]
  simp only [dU]
  rw [if_neg (by rintro ⟨h1, _⟩; omega), if_neg (by omega)]
  cases dU k false r with
  | none => rfl
  | some y =>
    obtain ⟨m, r'⟩ := y
    simp only [shiftD, Option.some.injEq, Prod.mk.injEq, and_true]
    rw [pow128, pow128, show 7 * (i + 1) = 7 * i + 7 by omega, Nat.pow_add, show x % 128 = x - 128 by omega, Nat.mul_add, show (2 : Nat) ^ 7 = 128 from rfl, Nat.mul_assoc, Nat.mul_comm (x - 128)]
    omega

theorem getU_ok (hO : ∀ a h, O 100 a h = none) {h0 : Heap} {b : V} {bs : List Nat} {a : Nat} (hb : RS h0 1 b (bs.map byteC)) (hB : Bytes bs) (ha : a ≤ bs.length) (hl : bs.length ≤ 4294967296) :
    WPc tab.get O 100 [b, .int .i64 (.ofNat a)] h0 (fun v h' => GotU bs.length a v (dU 9 true (bs.drop a)) ∧ h' = h0) := by
  refine w_fn' (hO _ _) rfl rfl (by simp only [c100, initV, nth] <;> rfl) ?_
  repeat' (first | refine w_seq ?_ | refine w_reg ?_ | refine w_e ?_ | refine w_off rfl ?_ | refine w_on rfl ?_ | refine w_len rfl (by assumption) ?_ | refine w_lssN rfl rfl (fun hc => ?_) (fun hc => ?_) | refine w_gtrN rfl rfl (fun hc => ?_) (fun hc => ?_) | refine w_opk rfl rfl ?_ | refine w_cond_t rfl ?_ | refine w_cond_f rfl ?_ | refine w_skip ?_ | refine w_ret ?_ | refine w_rt rfl ?_)
  · exact absurd hc (Nat.not_lt_zero _)
  · exact absurd hc (by simp; omega)
  clear hc
  refine w_block (w_loop (fun m vs h => h = h0 ∧ ∃ i acc b7 b8 b9 b10 b11 b13, m = 9 - i ∧ i ≤ 9 ∧ vs = [b, .int .i64 (.ofNat a), .int .u64 0, .int .i64 0, .int .i64 0, .bool false, .int .i64 (.ofNat i), b7, b8, b9, b10, b11, .int .u64 (.ofNat acc), b13] ∧ acc < 2 ^ (7 * i) ∧ a + i ≤ bs.length ∧
    dU 9 true (bs.drop a) = shiftD i acc (dU (9 - i) (decide (i = 0)) (bs.drop (a + i)))) ?_ 9 _ _ ⟨rfl, 0, 0, _, _, _, _, _, _, rfl, by omega, rfl, by simp, by omega, ?_⟩)
  · rintro m vs h ⟨rfl, i, acc, b7, b8, b9, b10, b11, b13, rfl, hi, rfl, hacc, hai, hd⟩
    repeat' (first | refine w_seq ?_ | refine w_reg ?_ | refine w_e ?_ | refine w_lssN rfl rfl (fun hc => ?_) (fun hc => ?_) | refine w_opk rfl rfl ?_ | refine w_cond_t rfl ?_ | refine w_cond_f rfl ?_ | refine w_skip ?_ | refine w_exit rfl ?_ | refine w_ret ?_ | refine w_rt rfl ?_)
    · refine w_block ?_
      repeat' (first | refine w_seq ?_ | refine w_reg ?_ | refine w_e ?_ | refine w_len rfl (by assumption) ?_ | refine w_eqlN rfl rfl (fun hc => ?_) (fun hc => ?_) | refine w_addN rfl rfl (by omega) ?_ | refine w_opk rfl rfl ?_ | refine w_cond_t rfl ?_ | refine w_cond_f rfl ?_ | refine w_skip ?_ | refine w_ret ?_ | refine w_rt rfl ?_)
      · have he : a + i = bs.length := by simpa using hc
        rw [List.drop_of_length_le (i := a + i) (by omega), dU_nil] at hd
        refine ⟨?_, rfl⟩
        rw [hd]
        exact ⟨11, by decide, rfl⟩
      have hlt : a + i < bs.length := by
        have hc : ¬ (a + i = (bs.map byteC).length) := hc
        rw [List.length_map] at hc; omega
      have hx : bs[a + i] < 256 := hB _ (List.getElem_mem hlt)
      have hdr : bs.drop (a + i) = bs[a + i] :: bs.drop (a + (i + 1)) := List.drop_eq_getElem_cons hlt
      have hA := slot_at (j := a + i) hb (by simpa using hlt)
      rw [List.getElem_map] at hA
      rw [hdr] at hd
      generalize bs[a + i] = x at *
      refine w_iadrS rfl rfl hb (by simpa using hlt) ?_
      refine w_load1 rfl hA rfl ?_
      clear hc
      have hw : IntKind.u64.wrap (.ofNat (x % 128)) = .ofNat (x % 128) := by
        rw [wrap_u64]; show ((x % 128 : Nat) : Int) % _ = ((x % 128 : Nat) : Int); omega
      repeat' (first | refine w_seq ?_ | refine w_reg ?_ | refine w_e ?_ | refine w_off rfl ?_ | refine w_on rfl ?_ | refine w_gtrN rfl rfl (fun hc => ?_) (fun hc => ?_) | refine w_eqlN rfl rfl (fun hc => ?_) (fun hc => ?_) | refine w_opq rfl rfl ?_ | refine w_cond_t rfl ?_ | refine w_cond_f rfl ?_ | refine w_skip ?_ | refine w_exit rfl ?_ | refine w_ret ?_ | refine w_rt rfl ?_)
      all_goals first
        | (refine ⟨?_, rfl⟩
           have : dU 9 true (List.drop a bs) = none := by
             rw [hd]
             rcases Nat.lt_or_ge i 9 with h9 | h9
             · obtain ⟨k, hk⟩ : ∃ k, 9 - i = k + 1 := ⟨8 - i, by omega⟩
               rw [hk]
               have e0 : decide (i = 0) = false := decide_eq_false (by omega)
               simp only [dU, e0]
               rw [if_pos ⟨by omega, trivial⟩]
               rfl
             · rw [show 9 - i = 0 by omega]
               have e0 : decide (i = 0) = false := decide_eq_false (by omega)
               simp only [dU, e0]
               rw [if_pos (by first | omega | exact .inr ⟨by omega, rfl⟩ | exact .inr ⟨by omega, trivial⟩)]
               rfl
           rw [this]
           exact ⟨10, by decide, rfl⟩)
        | skip
      all_goals refine w_and127 rfl (by rfl) hx ?_
      all_goals refine w_toI rfl hw ?_
      all_goals refine w_opq rfl rfl ?_
      all_goals refine w_mulN rfl rfl (by omega) ?_
      all_goals obtain ⟨hp, hs⟩ := sh_bound hi hx hacc (by omega)
      all_goals refine w_shlN rfl rfl (by omega) hp ?_
      all_goals refine w_orD rfl rfl hacc hs ?_
      all_goals (repeat' (first | refine w_seq ?_ | refine w_reg ?_ | refine w_e ?_ | refine w_lssN rfl rfl (fun hc => ?_) (fun hc => ?_) | refine w_addN rfl rfl (by omega) ?_ | refine w_opk rfl rfl ?_ | refine w_cond_t rfl ?_ | refine w_cond_f rfl ?_ | refine w_skip ?_ | refine w_ret ?_ | refine w_rt rfl ?_))
      all_goals first
        | (have hc : x < 128 := by assumption
           rw [dU_lt hi hc (by omega) (by omega)] at hd
           refine ⟨?_, rfl⟩
           rw [hd]
           refine ⟨?_, by omega, by simp⟩
           rw [List.length_drop, show bs.length - (bs.length - (a + (i + 1))) = a + i + 1 by omega]
           rfl)
        | (have hc : 128 ≤ x := by assumption
           have hi8 : i ≤ 8 := by omega
           rw [dU_ge hi8 hc hx] at hd
           refine ⟨9 - (i + 1), by omega, rfl, i + 1, _, _, _, _, _, _, _, rfl, by omega, rfl, ?_, by omega, hd⟩
           rw [show 7 * (i + 1) = 7 * i + 7 by omega, Nat.pow_add]
           have : x % 128 * 2 ^ (7 * i) ≤ 127 * 2 ^ (7 * i) := Nat.mul_le_mul (by omega) (Nat.le_refl _)
           omega)
    · exact absurd hi (by omega)
  · simp only [Nat.sub_zero, decide_true, Nat.add_zero]
    cases dU 9 true (List.drop a bs) with
    | none => rfl
    | some y => obtain ⟨m, r⟩ := y; simp [shiftD]
end AmT
