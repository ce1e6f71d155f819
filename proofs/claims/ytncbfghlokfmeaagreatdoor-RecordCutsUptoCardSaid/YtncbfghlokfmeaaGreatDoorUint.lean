/-
  bytes.Uint at any number: the number's bytes behind a slice. Conditions: the slice is one's own, and not too long.
-/
import Derived.Test.YtncbfghlokfmeaaGreatDoorW
namespace AmT
open Go Am
set_option maxRecDepth 100000
set_option linter.unusedSimpArgs false
set_option linter.unusedVariables false
set_option maxHeartbeats 2000000
variable {O : CallF}

/-- A byte of a number that goes on. -/
def hiB (y : Int) : Int := IntKind.u8.wrap (BitVec.ofInt 8 (IntKind.u8.wrap y) ||| BitVec.ofInt 8 128).toNat

/-- A number's bytes. -/
def uB : Nat → Int → List (List V)
  | 0, y => [[.int .u8 (IntKind.u8.wrap y)]]
  | k + 1, y => if y < 128 then [[.int .u8 (IntKind.u8.wrap y)]] else [.int .u8 (hiB y)] :: uB k (y / 128)

theorem uB_len : ∀ (k : Nat) (y : Int), (uB k y).length ≤ k + 1
  | 0, _ => by simp [uB]
  | k + 1, y => by
    unfold uB
    split
    · simp
    · have := uB_len k (y / 128); simp; omega

theorem uB_lt {k : Nat} {y : Int} (h : y < 128) : uB k y = [[.int .u8 (IntKind.u8.wrap y)]] := by
  cases k with
  | zero => rfl
  | succ k => simp [uB, h]

theorem uint_ok (hO : ∀ a h, O 53 a h = none) {h0 : Heap} {out : V} {l : List (List V)} {y : Int} (hy0 : 0 ≤ y) (hy : y < 18446744073709551616) (ho : Ow h0 1 out l) (hr : l.length ≤ 4000000000) :
    WPc tab.get O 53 [out, .int .u64 y] h0 (fun v h' => Ow h' 1 v (l ++ uB 9 y) ∧ Fr h0 out h' v) := by
  refine w_fn' (hO _ _) rfl rfl (by simp only [c53, initV, nth] <;> rfl) ?_
  repeat' (first | refine w_seq ?_ | refine w_reg ?_ | refine w_e ?_ | refine w_opk rfl rfl ?_)
  refine w_block (w_loop (fun m vs h => ∃ s z pre b, vs = [s, .int .u64 z, .nils, b] ∧ 0 ≤ z ∧ z < 128 ^ (m + 1) ∧ m ≤ 9 ∧ Ow h 1 s (l ++ pre) ∧ Fr h0 out h s ∧ pre ++ uB m z = uB 9 y ∧ pre.length ≤ 9 - m) ?_ 9 _ _ ⟨out, y, [], .any, rfl, hy0, by simp; omega, Nat.le_refl _, by simpa using ho, Fr.refl _ _, rfl, by simp⟩)
  rintro m vs h ⟨s, z, pre, b, rfl, hz0, hz, hm, hs, hf, he, hl⟩
  repeat' (first | refine w_seq ?_ | refine w_reg ?_ | refine w_e ?_ | refine w_geq rfl rfl (fun hc => ?_) (fun hc => ?_) | refine w_opk rfl rfl ?_ | refine w_cond_t rfl ?_ | refine w_cond_f rfl ?_ | refine w_skip ?_ | refine w_exit rfl ?_)
  · refine w_block ?_
    repeat' (first | refine w_seq ?_ | refine w_reg ?_ | refine w_opk rfl rfl ?_)
    refine w_push rfl rfl rfl rfl (fun _ => rfl) hs (by simp; omega) fun a s' h' hs' hf' => ?_
    repeat' (first | refine w_reg ?_ | refine w_e ?_ | refine w_opk rfl rfl ?_)
    have hc : 128 ≤ z := hc
    cases m with
    | zero => exact absurd hz (by simp; omega)
    | succ m =>
      have hd : z.fdiv (2 ^ (min (Int.ofNat 7).toNat IntKind.u64.bits)) = z / 128 := Int.fdiv_eq_ediv_of_nonneg z (by decide)
      refine ⟨m, by omega, s', _, pre ++ [[.int .u8 (hiB z)]], _, rfl, ?_, ?_, by omega, ?_, hf.trans hf', ?_, by simp; omega⟩
      · rw [hd]; omega
      · rw [hd]
        rw [Int.pow_succ] at hz
        omega
      · rw [← List.append_assoc]; exact hs'
      · rw [hd, ← he]
        simp only [uB, if_neg (show ¬ z < 128 by omega), List.append_assoc, List.singleton_append]
  · refine w_push rfl rfl rfl rfl (fun _ => rfl) hs (by simp; omega) fun a s' h' hs' hf' => ?_
    repeat' (first | refine w_e ?_ | refine w_opk rfl rfl ?_ | refine w_ret ?_ | refine w_rt rfl ?_)
    have hc : z < 128 := hc
    refine ⟨?_, hf.trans hf'⟩
    rw [← he, uB_lt hc, ← List.append_assoc]
    exact hs'
end AmT
