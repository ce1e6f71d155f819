/-
  IrRight's run, over any table of tokens. Conditions: the arguments are plain data, of bulk at most 1048576.
-/
import Derived.Test.YtfiajgdgjajcnaaGreatDoorIrRightRun
import Derived.Test.YtfiajgdgjajcnaaGreatDoorAw14M
import Derived.Test.YtfiajgdgjajcnaaGreatDoorTyMod
import Derived.Test.YtfiajgdgjajcnaaGreatDoorTyFa
import Derived.Test.YtfiajgdgjajcnaaGreatDoorCallsOf
namespace AmT
open Go Am Go.Proofs
set_option maxRecDepth 100000
set_option maxHeartbeats 2000000
set_option linter.unusedSimpArgs false
def OI : CallF := memoO [⟨34, [], .bool true⟩]
theorem OI_ok {t : Nat → Option V} (ht : FlatT t) : CallOk (CC t) OI := memoO_ok (by simp [mAwake14 ht])
theorem OI_ic : OffIc OI := by repeat' first | (intro _ _; exact rfl) | constructor
theorem OI_law : OffRt4 OI := ⟨OI_ic, fun _ _ => rfl, fun _ _ => rfl, fun _ _ => rfl, fun {h} => w_known (v := .bool true) (h1 := h) rfl ⟨rfl, ExtX.refl _ _⟩⟩
theorem irRight_run {t : Nat → Option V} (ht : FlatT t) (a0 a1 a2 : List V) (w0 : ∃ n, TV n 28 a0) (w1 : ∃ n, TV n 75 a1) (w2 : ∃ n, TV n 76 a2) (hb : bulkL a0 + bulkL a1 + bulkL a2 ≤ 1048576) :
    ∃ H', CallsTo (CC t) 8 [.agg a0, .agg a1, .agg a2] Heap.empty (.bool true) H' := by
  obtain ⟨n0, h0⟩ := w0
  obtain ⟨n1, h1⟩ := w1
  obtain ⟨n2, h2⟩ := w2
  obtain ⟨m, rfl, a, b, rfl, k1, c, d, rfl, k2, hf⟩ := ty_arr Tryz.underlying76 h2
  obtain ⟨x0, rfl, _⟩ := ty_int Tryz.underlying3 k1
  obtain ⟨x1, rfl, _⟩ := ty_int Tryz.underlying3 k2
  simp only [TyVs] at hf; subst hf
  obtain ⟨M, hm, ht'⟩ := ty_modB h0 (by omega)
  obtain ⟨F, hF, tF, wF⟩ := ty_fast h1 (fun _ => False) Heap.empty
  exact calls_of ht (OI_ok ht) (irRight_ok OI_law (fun _ _ => rfl) (hm _) ht' hF (.of tF (by omega)))
end AmT
