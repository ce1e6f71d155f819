/-
  BaseSteps' run, over any table of tokens. Conditions: the arguments are plain data, of bulk at most 1048576.
-/
import Derived.Test.YtfiajgdgjajcnaaGreatDoorBaseStepsRun
import Derived.Test.YtfiajgdgjajcnaaGreatDoorW12
import Derived.Test.YtfiajgdgjajcnaaGreatDoorTyMod
import Derived.Test.YtfiajgdgjajcnaaGreatDoorCallsOf
namespace AmT
open Go Am Go.Proofs
set_option maxRecDepth 100000
set_option maxHeartbeats 2000000
def OS : CallF := memoO [⟨21, [], .bool true⟩]
theorem OS_ok {t : Nat → Option V} (ht : FlatT t) : CallOk (CC t) OS := memoO_ok (by simp [mAwake12 ht])
theorem OS_on : OffOn OS := by repeat' first | (intro _ _; exact rfl) | constructor
theorem OS_ac : OffAc OS := by repeat' first | (intro _ _; exact rfl) | constructor
theorem OS_tx : OffTx OS := by repeat' first | (intro _ _; exact rfl) | constructor
theorem OS_rg : OffRg OS := by repeat' first | (intro _ _; exact rfl) | constructor
theorem OS_bg : OffBg OS := by repeat' first | (intro _ _; exact rfl) | constructor
theorem OS_cp : OffCopied OS := by repeat' first | (intro _ _; exact rfl) | constructor
theorem OS_ck : OffCk OS := by repeat' first | (intro _ _; exact rfl) | constructor
theorem OS_ws : OffWS OS := by repeat' first | (intro _ _; exact rfl) | constructor
theorem OS_wf : OffWF OS := by repeat' first | (intro _ _; exact rfl) | constructor
theorem OS_law : OffSt OS := ⟨⟨⟨OS_on, OS_ac, OS_tx, fun _ _ => rfl, fun _ _ => rfl⟩, OS_cp, fun _ _ => rfl⟩, OS_rg, OS_bg, OS_ck, OS_ws, OS_wf, fun _ _ => rfl, fun {h} => w_known (v := .bool true) (h1 := h) rfl ⟨rfl, ExtX.refl _ _⟩⟩
theorem baseSteps_run {t : Nat → Option V} (ht : FlatT t) (a0 a1 : List V) (w0 : ∃ n, TV n 28 a0) (w1 : ∃ n, TV n 59 a1) (hb : bulkL a0 + bulkL a1 ≤ 1048576) :
    ∃ H', CallsTo (CC t) 5 [.agg a0, .agg a1] Heap.empty (.bool true) H' := by
  obtain ⟨n0, h0⟩ := w0
  obtain ⟨n1, h1⟩ := w1
  obtain ⟨M, hm, ht'⟩ := ty_modB h0 (by omega)
  obtain ⟨q, hq, htq⟩ := ty_askB h1 (by omega)
  exact calls_of ht (OS_ok ht) (baseSteps_ok OS_law (fun _ _ => rfl) (hm _) ht' (hq _) htq)
end AmT
