/-
  BaseOrder's run at any byte and number. Conditions: the byte is one, the number is of 64 bits.
-/
import Derived.Test.YtflchelidalhnaaGreatDoorBaseOrderRun
import Derived.Test.YtflchelidalhnaaGreatDoorOrdMem
import Derived.Test.YtflchelidalhnaaGreatDoorW12
import Derived.Test.YtflchelidalhnaaGreatDoorCallsOf
namespace AmT
open Go Am Go.Proofs
set_option maxRecDepth 100000
set_option maxHeartbeats 2000000
def OO : CallF := memoO [⟨20, [], .bool true⟩, ⟨14, [.str textOrder], .agg (modC modOrder)⟩, ⟨45, [.agg (modC modOrder)], .int .i64 (.ofNat 0)⟩]
theorem OO_ok {t : Nat → Option V} (ht : FlatT t) : CallOk (CC t) OO := memoO_ok fun m hm => by
  simp only [List.mem_cons, List.not_mem_nil, or_false] at hm
  rcases hm with rfl | rfl | rfl
  · exact mAwake12 ht
  · exact mModOrd ht
  · exact mCkOrd ht
theorem OO_text : TextOk OO textOrder (modC modOrder) modOrder :=
  ⟨modOrder_ok, modC_ok (by decide), fun {h} => w_known (v := .agg (modC modOrder)) (h1 := h) rfl ⟨rfl, ExtX.refl _ _⟩, fun {h} => w_known (v := .int .i64 (.ofNat 0)) (h1 := h) rfl ⟨rfl, ExtX.refl _ _⟩⟩
theorem OO_on : OffOn OO := by repeat' first | (intro _ _; exact rfl) | constructor
theorem OO_ac : OffAc OO := by repeat' first | (intro _ _; exact rfl) | constructor
theorem OO_tx : OffTx OO := by repeat' first | (intro _ _; exact rfl) | constructor
theorem OO_rg : OffRg OO := by repeat' first | (intro _ _; exact rfl) | constructor
theorem OO_bg : OffBg OO := by repeat' first | (intro _ _; exact rfl) | constructor
theorem OO_cp : OffCopied OO := by repeat' first | (intro _ _; exact rfl) | constructor
theorem OO_law : OffOrd OO := ⟨⟨⟨⟨OO_on, OO_ac, OO_tx, fun _ _ => rfl, fun _ _ => rfl⟩, OO_cp, fun _ _ => rfl⟩, OO_rg, OO_bg, fun _ _ => rfl⟩, fun _ _ => rfl, fun {h} => w_known (v := .bool true) (h1 := h) rfl ⟨rfl, ExtX.refl _ _⟩⟩
theorem orderW {t : Nat → Option V} (ht : FlatT t) (w b : Int) (hw : (Lit.int .u8 w).wf = true) (hb : (Lit.int .u64 b).wf = true) : ∃ H', CallsTo (CC t) 6 [.int .u8 w, .int .u64 b] Heap.empty (.bool true) H' := by
  simp only [Lit.wf, Bool.and_eq_true, decide_eq_true_eq] at hw hb
  have h1 : (0 : Int) ≤ w := hw.1
  have h2 : w ≤ 255 := hw.2
  have h3 : (0 : Int) ≤ b := hb.1
  have h4 : b ≤ 18446744073709551615 := hb.2
  obtain ⟨n, rfl⟩ : ∃ n : Nat, w = Int.ofNat n := ⟨w.toNat, (Int.toNat_of_nonneg h1).symm⟩
  obtain ⟨m, rfl⟩ : ∃ m : Nat, b = Int.ofNat m := ⟨b.toNat, (Int.toNat_of_nonneg h3).symm⟩
  have h5 : (n : Int) ≤ 255 := h2
  have h6 : (m : Int) ≤ 18446744073709551615 := h4
  exact calls_of ht (OO_ok ht) (baseOrder_ok OO_law (fun _ _ => rfl) OO_text (by omega) (by omega))
end AmT
