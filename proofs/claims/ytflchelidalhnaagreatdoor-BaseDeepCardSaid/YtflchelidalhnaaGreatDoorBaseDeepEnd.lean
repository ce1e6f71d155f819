/-
  BaseDeep's run at any byte. Conditions: the byte is one.
-/
import Derived.Test.YtflchelidalhnaaGreatDoorBaseDeepRun
import Derived.Test.YtflchelidalhnaaGreatDoorDeepMem
import Derived.Test.YtflchelidalhnaaGreatDoorW12
import Derived.Test.YtflchelidalhnaaGreatDoorCallsOf
namespace AmT
open Go Am Go.Proofs
set_option maxRecDepth 100000
set_option maxHeartbeats 2000000
def OD : CallF := memoO [⟨20, [], .bool true⟩, ⟨14, [.str textDeep], .agg (modC modDeep)⟩, ⟨45, [.agg (modC modDeep)], .int .i64 (.ofNat 0)⟩]
theorem OD_ok {t : Nat → Option V} (ht : FlatT t) : CallOk (CC t) OD := memoO_ok fun m hm => by
  simp only [List.mem_cons, List.not_mem_nil, or_false] at hm
  rcases hm with rfl | rfl | rfl
  · exact mAwake12 ht
  · exact mModDeep ht
  · exact mCkDeep ht
theorem OD_text : TextOk OD textDeep (modC modDeep) modDeep :=
  ⟨modDeep_ok, modC_ok (by decide), fun {h} => w_known (v := .agg (modC modDeep)) (h1 := h) rfl ⟨rfl, ExtX.refl _ _⟩, fun {h} => w_known (v := .int .i64 (.ofNat 0)) (h1 := h) rfl ⟨rfl, ExtX.refl _ _⟩⟩
theorem OD_on : OffOn OD := by repeat' first | (intro _ _; exact rfl) | constructor
theorem OD_ac : OffAc OD := by repeat' first | (intro _ _; exact rfl) | constructor
theorem OD_tx : OffTx OD := by repeat' first | (intro _ _; exact rfl) | constructor
theorem OD_rg : OffRg OD := by repeat' first | (intro _ _; exact rfl) | constructor
theorem OD_bg : OffBg OD := by repeat' first | (intro _ _; exact rfl) | constructor
theorem OD_cp : OffCopied OD := by repeat' first | (intro _ _; exact rfl) | constructor
theorem OD_law : OffLaw OD := ⟨⟨⟨⟨OD_on, OD_ac, OD_tx, fun _ _ => rfl, fun _ _ => rfl⟩, OD_cp, fun _ _ => rfl⟩, OD_rg, OD_bg, fun _ _ => rfl⟩, fun _ _ => rfl, fun {h} => w_known (v := .bool true) (h1 := h) rfl ⟨rfl, ExtX.refl _ _⟩⟩
theorem deepW {t : Nat → Option V} (ht : FlatT t) (w : Int) (hw : (Lit.int .u8 w).wf = true) : ∃ H', CallsTo (CC t) 5 [.int .u8 w] Heap.empty (.bool true) H' := by
  simp only [Lit.wf, Bool.and_eq_true, decide_eq_true_eq] at hw
  have h1 : (0 : Int) ≤ w := hw.1
  have h2 : w ≤ 255 := hw.2
  obtain ⟨n, rfl⟩ : ∃ n : Nat, w = Int.ofNat n := ⟨w.toNat, (Int.toNat_of_nonneg h1).symm⟩
  have h5 : (n : Int) ≤ 255 := h2
  exact calls_of ht (OD_ok ht) (baseDeep_ok OD_law (fun _ _ => rfl) OD_text (by omega))
end AmT
