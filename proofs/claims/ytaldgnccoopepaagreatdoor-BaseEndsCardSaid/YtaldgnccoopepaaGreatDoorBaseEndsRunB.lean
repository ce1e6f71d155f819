/-
  The other runs of BaseEnds. Conditions: the byte is one.
-/
import Derived.Test.YtaldgnccoopepaaGreatDoorBaseEndsRun
namespace AmT
open Go Am Go.Proofs
set_option maxRecDepth 100000

theorem ends2 (w n : Int) (h : w.tmod 4 = 2) : Memo.ok (CC (tN n)) ⟨4, [.int .u8 w, s0], .bool true⟩ :=
  script_runR (A := noA) (B := bEnds) (Q := noO) (script := [.val (.int .u8 2), .val (.int .u8 2)]) (log := [remE w 2, remE w 2])
    mixed (globFlat (tN_flat n)) (tOk (tN n)) (O3_ok n) (noO_ok (CC (tN n))) noA_none 4000 1000 (by kernel_rfl) (by kernel_rfl) (by
      intro e he
      simp only [List.mem_cons, List.not_mem_nil, or_false] at he
      rcases he with rfl | rfl <;> simp [LE.ok, binV, intBin, h])

theorem ends3 (w n : Int) (h : w.tmod 4 = 3) : Memo.ok (CC (tN n)) ⟨4, [.int .u8 w, s0], .bool true⟩ :=
  script_runR (A := noA) (B := bEnds) (Q := noO) (script := [.val (.int .u8 3), .val (.int .u8 3)]) (log := [remE w 3, remE w 3])
    mixed (globFlat (tN_flat n)) (tOk (tN n)) (O3_ok n) (noO_ok (CC (tN n))) noA_none 4000 1000 (by kernel_rfl) (by kernel_rfl) (by
      intro e he
      simp only [List.mem_cons, List.not_mem_nil, or_false] at he
      rcases he with rfl | rfl <;> simp [LE.ok, binV, intBin, h])

theorem endsW (w n : Int) (hw : (Lit.int .u8 w).wf = true) (_ : (Lit.int .i64 n).wf = true) : Memo.ok (CC (tN n)) ⟨4, [.int .u8 w, s0], .bool true⟩ := by
  simp only [Lit.wf, Bool.and_eq_true, decide_eq_true_eq] at hw
  have h : (0 : Int) ≤ w := hw.1
  have h4 : w.tmod 4 = 0 ∨ w.tmod 4 = 1 ∨ w.tmod 4 = 2 ∨ w.tmod 4 = 3 := by
    rw [Int.tmod_eq_emod_of_nonneg h]; omega
  rcases h4 with h | h | h | h
  · exact ends0 w n h
  · exact ends1 w n h
  · exact ends2 w n h
  · exact ends3 w n h
end AmT
