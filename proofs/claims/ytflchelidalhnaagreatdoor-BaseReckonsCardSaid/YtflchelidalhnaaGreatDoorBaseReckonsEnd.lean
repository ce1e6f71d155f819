/-
  BaseReckons' run at any two numbers and any byte. Conditions: the numbers are of 64 bits, the byte is one.
-/
import Derived.Test.YtflchelidalhnaaGreatDoorBaseReckonsRun
import Derived.Test.YtflchelidalhnaaGreatDoorReckMemA
import Derived.Test.YtflchelidalhnaaGreatDoorReckMemB
import Derived.Test.YtflchelidalhnaaGreatDoorReckMemC
import Derived.Test.YtflchelidalhnaaGreatDoorW12
import Derived.Test.YtflchelidalhnaaGreatDoorCallsOf
namespace AmT
open Go Am Go.Proofs
set_option maxRecDepth 100000
set_option maxHeartbeats 4000000
def OK : CallF := memoO [⟨20, [], .bool true⟩, ⟨14, [.str (preR ++ signR 4 ++ postR)], .agg (modC (modK 4))⟩, ⟨45, [.agg (modC (modK 4))], .int .i64 (.ofNat 0)⟩, ⟨14, [.str (preR ++ signR 5 ++ postR)], .agg (modC (modK 5))⟩, ⟨45, [.agg (modC (modK 5))], .int .i64 (.ofNat 0)⟩, ⟨14, [.str (preR ++ signR 6 ++ postR)], .agg (modC (modK 6))⟩, ⟨45, [.agg (modC (modK 6))], .int .i64 (.ofNat 0)⟩, ⟨14, [.str (preR ++ signR 7 ++ postR)], .agg (modC (modK 7))⟩, ⟨45, [.agg (modC (modK 7))], .int .i64 (.ofNat 0)⟩, ⟨14, [.str (preR ++ signR 8 ++ postR)], .agg (modC (modK 8))⟩, ⟨45, [.agg (modC (modK 8))], .int .i64 (.ofNat 0)⟩]
theorem OK_ok {t : Nat → Option V} (ht : FlatT t) : CallOk (CC t) OK := memoO_ok fun m hm => by
  simp only [List.mem_cons, List.not_mem_nil, or_false] at hm
  rcases hm with rfl | rfl | rfl | rfl | rfl | rfl | rfl | rfl | rfl | rfl | rfl
  · exact mAwake12 ht
  · exact mModR4 ht
  · exact mCkR4 ht
  · exact mModR5 ht
  · exact mCkR5 ht
  · exact mModR6 ht
  · exact mCkR6 ht
  · exact mModR7 ht
  · exact mCkR7 ht
  · exact mModR8 ht
  · exact mCkR8 ht
theorem OK_text (o : Int) (ho : o = 4 ∨ o = 5 ∨ o = 6 ∨ o = 7 ∨ o = 8) : TextOk OK (preR ++ signR o ++ postR) (modC (modK o)) (modK o) := by
  refine ⟨modK_ok ho, modC_ok (by simp [modK]), fun {h} => w_known (v := .agg (modC (modK o))) (h1 := h) ?_ ⟨rfl, ExtX.refl _ _⟩, fun {h} => w_known (v := .int .i64 (.ofNat 0)) (h1 := h) ?_ ⟨rfl, ExtX.refl _ _⟩⟩
  · rcases ho with rfl | rfl | rfl | rfl | rfl <;> rfl
  · rcases ho with rfl | rfl | rfl | rfl | rfl <;> rfl
theorem OK_on : OffOn OK := by repeat' first | (intro _ _; exact rfl) | constructor
theorem OK_ac : OffAc OK := by repeat' first | (intro _ _; exact rfl) | constructor
theorem OK_tx : OffTx OK := by repeat' first | (intro _ _; exact rfl) | constructor
theorem OK_rg : OffRg OK := by repeat' first | (intro _ _; exact rfl) | constructor
theorem OK_bg : OffBg OK := by repeat' first | (intro _ _; exact rfl) | constructor
theorem OK_cp : OffCopied OK := by repeat' first | (intro _ _; exact rfl) | constructor
theorem OK_law : OffReck OK := ⟨⟨⟨⟨OK_on, OK_ac, OK_tx, fun _ _ => rfl, fun _ _ => rfl⟩, OK_cp, fun _ _ => rfl⟩, OK_rg, OK_bg, fun _ _ => rfl⟩, fun _ _ => rfl, fun _ _ => rfl, fun {h} => w_known (v := .bool true) (h1 := h) rfl ⟨rfl, ExtX.refl _ _⟩⟩
theorem reckW {t : Nat → Option V} (ht : FlatT t) (a b w : Int) (ha : (Lit.int .i64 a).wf = true) (hb : (Lit.int .i64 b).wf = true) (hw : (Lit.int .u8 w).wf = true) : ∃ H', CallsTo (CC t) 4 [.int .i64 a, .int .i64 b, .int .u8 w] Heap.empty (.bool true) H' := by
  simp only [Lit.wf, Bool.and_eq_true, decide_eq_true_eq] at ha hb hw
  have h1 : (0 : Int) ≤ w := hw.1
  have h2 : w ≤ 255 := hw.2
  obtain ⟨n, rfl⟩ : ∃ n : Nat, w = Int.ofNat n := ⟨w.toNat, (Int.toNat_of_nonneg h1).symm⟩
  have h5 : (n : Int) ≤ 255 := h2
  have a1 : (-9223372036854775808 : Int) ≤ a := ha.1
  have a2 : a ≤ 9223372036854775807 := ha.2
  have b1 : (-9223372036854775808 : Int) ≤ b := hb.1
  have b2 : b ≤ 9223372036854775807 := hb.2
  exact calls_of ht (OK_ok ht) (baseReckons_ok OK_law (fun _ _ => rfl) OK_text ⟨a1, a2⟩ ⟨b1, b2⟩ (by omega))
end AmT
