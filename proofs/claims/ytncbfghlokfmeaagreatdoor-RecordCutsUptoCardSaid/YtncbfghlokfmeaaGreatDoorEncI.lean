/-
  bytes.Int in plain words: the number's bytes behind a slice. Conditions: the slice is one's own, and not too long.
-/
import Derived.Test.YtncbfghlokfmeaaGreatDoorEnc
namespace AmT
open Go Am
set_option maxRecDepth 100000
set_option maxHeartbeats 4000000
set_option linter.unusedSimpArgs false
set_option linter.unusedVariables false
variable {O : CallF}

theorem zigN_lt (e : Int) : zigN e < 18446744073709551616 := by
  unfold zigN
  have := wrap_u64_range ((BitVec.ofInt 64 (IntKind.u64.wrap (IntKind.u64.wrap e * 2 ^ 1)) ^^^ BitVec.ofInt 64 (IntKind.u64.wrap (e.fdiv (2 ^ 63)))).toNat : Int)
  omega

theorem zigN_eq {e : Int} (h : -1 ≤ e) (h2 : e ≤ 1048576) : zigN e = zig e := by
  by_cases h0 : e < 0
  · have : e = -1 := by omega
    subst this
    decide +kernel
  · obtain ⟨n, rfl⟩ := Int.eq_ofNat_of_zero_le (show 0 ≤ e by omega)
    unfold zigN zig
    rw [if_neg h0]
    have e1 : IntKind.u64.wrap (IntKind.u64.wrap (n : Int) * 2 ^ 1) = Int.ofNat (2 * n) := by
      rw [wrap_u64, wrap_u64]
      show _ = ((2 * n : Nat) : Int)
      omega
    have e2 : IntKind.u64.wrap ((n : Int).fdiv (2 ^ 63)) = Int.ofNat 0 := by
      rw [Int.fdiv_eq_ediv_of_nonneg _ (by decide), wrap_u64]
      show _ = ((0 : Nat) : Int)
      omega
    rw [e1, e2, bits_xor64 (by omega) (by decide), Nat.xor_zero]
    show 2 * n = _
    omega

theorem int_ok (hU : ∀ a h, O 53 a h = none) (hO : ∀ a h, O 57 a h = none) {h0 : Heap} {out : V} {l : List Nat} {y : Int} (ho : Ow h0 1 out (l.map byteC)) (hr : l.length ≤ 4000000000) :
    WPc tab.get O 57 [out, .int .i64 y] h0 (fun v h' => Ow h' 1 v ((l ++ encU 9 (zigN y)).map byteC) ∧ Fr h0 out h' v) := by
  refine w_fn' (hO _ _) rfl rfl (by simp only [c57, initV, nth] <;> rfl) ?_
  repeat' (first | refine w_seq ?_ | refine w_reg ?_ | refine w_e ?_ | refine w_opk rfl rfl ?_)
  have e : zigN y = (zigN y : Nat) := rfl
  refine w_call rfl ((enc_ok (n := zigN y) hU ?_ (zigN_lt y) ho hr).mono fun v h' ⟨k1, k2⟩ => ?_)
  · unfold zigN
    exact (Int.toNat_of_nonneg (wrap_u64_range _).1).symm
  repeat' (first | refine w_e ?_ | refine w_opk rfl rfl ?_ | refine w_ret ?_ | refine w_rt rfl ?_)
  exact ⟨k1, k2⟩
end AmT
