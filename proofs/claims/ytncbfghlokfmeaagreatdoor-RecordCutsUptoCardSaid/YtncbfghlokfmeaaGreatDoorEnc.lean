/-
  bytes.Uint and bytes.Int in plain words: the number's bytes behind a slice. Conditions: the slice is one's own, and not too long.
-/
import Derived.Test.YtncbfghlokfmeaaGreatDoorUint
namespace AmT
open Go Am
set_option maxRecDepth 100000
set_option maxHeartbeats 4000000
set_option linter.unusedSimpArgs false
set_option linter.unusedVariables false
variable {O : CallF}

theorem hiB_nat (n : Nat) : hiB (n : Int) = Int.ofNat (n % 128 + 128) := by
  unfold hiB
  have h := bits_or128 ⟨n % 256, Nat.mod_lt _ (by decide)⟩
  have e : IntKind.u8.wrap (n : Int) = Int.ofNat (n % 256) := by
    rw [wrap_u8]
    show _ = ((n % 256 : Nat) : Int)
    omega
  rw [e, h]
  show Int.ofNat (n % 256 % 128 + 128) = _
  rw [Nat.mod_mod_of_dvd n (by decide)]

theorem uB_enc : ∀ (k n : Nat), n < 128 ^ k * 2 → uB k (n : Int) = (encU k n).map byteC
  | 0, n, h => by
    simp only [uB, encU, List.map_cons, List.map_nil, byteC, wrap_u8]
    have : (n : Int) % 256 = Int.ofNat n := by
      show _ = (n : Int)
      simp at h; omega
    rw [this]
  | k + 1, n, h => by
    simp only [uB, encU]
    by_cases hn : n < 128
    · rw [if_pos (by omega), if_pos hn]
      simp only [List.map_cons, List.map_nil, byteC, wrap_u8]
      have : (n : Int) % 256 = Int.ofNat n := by
        show _ = (n : Int)
        omega
      rw [this]
    · rw [if_neg (by omega), if_neg hn, List.map_cons, hiB_nat]
      have e : (n : Int) / 128 = ((n / 128 : Nat) : Int) := rfl
      rw [e, uB_enc k (n / 128) (by rw [Nat.pow_succ] at h; omega)]
      rfl

theorem enc_ok (hO : ∀ a h, O 53 a h = none) {h0 : Heap} {out : V} {l : List Nat} {y : Int} {n : Nat} (hy : y = Int.ofNat n) (hn : n < 18446744073709551616) (ho : Ow h0 1 out (l.map byteC)) (hr : l.length ≤ 4000000000) :
    WPc tab.get O 53 [out, .int .u64 y] h0 (fun v h' => Ow h' 1 v ((l ++ encU 9 n).map byteC) ∧ Fr h0 out h' v) := by
  subst hy
  have e : Int.ofNat n = (n : Int) := rfl
  refine (uint_ok hO (by rw [e]; omega) (by rw [e]; omega) ho (by simpa using hr)).mono fun v h' ⟨k1, k2⟩ => ⟨?_, k2⟩
  rw [e, uB_enc 9 n (by simp; omega)] at k1
  rwa [List.map_append]

end AmT
