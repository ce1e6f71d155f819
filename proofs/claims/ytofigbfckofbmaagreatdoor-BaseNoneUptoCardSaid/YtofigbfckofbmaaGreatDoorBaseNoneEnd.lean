/-
  BaseNone's run, over any table of tokens. Conditions: the arguments are plain data, of bulk at most 1048576.
-/
import Derived.Test.YtofigbfckofbmaaGreatDoorBaseNoneRun
import Derived.Test.YtofigbfckofbmaaGreatDoorCallsOf
import Derived.Test.YtofigbfckofbmaaGreatDoorTyVals
namespace AmT
open Go Am Go.Proofs
set_option maxRecDepth 100000
set_option linter.unusedSimpArgs false
set_option linter.unusedVariables false

theorem mBegin0 {t : Nat → Option V} (ht : FlatT t) : Memo.ok (CC t) ⟨21, [.agg noM, .int .i64 0, .nils, .str [], .nils, .int .i64 0, .int .i64 0], .tuple [.agg turn0, .int .i64 2]⟩ := memo_runR mixed (globFlat ht) (tOk t) (noO_ok _) 400 100 (by kernel_rfl) (by kernel_rfl)
theorem mRight0 {t : Nat → Option V} (ht : FlatT t) : Memo.ok (CC t) ⟨24, [.agg vInt], .bool true⟩ := memo_runR mixed (globFlat ht) (tOk t) (noO_ok _) 400 100 (by kernel_rfl) (by kernel_rfl)
def O12n : CallF := memoO [⟨20, [], .bool true⟩, ⟨21, [.agg noM, .int .i64 0, .nils, .str [], .nils, .int .i64 0, .int .i64 0], .tuple [.agg turn0, .int .i64 2]⟩, ⟨24, [.agg vInt], .bool true⟩]
theorem O12n_ok {t : Nat → Option V} (ht : FlatT t) : CallOk (CC t) O12n := memoO_ok (by simp [mAwake12 ht, mBegin0 ht, mRight0 ht])
theorem O12n_bg (v : V) (av : List V) (h : Heap) (hv : v ≠ .nils) : O12n 21 (.agg (badM v) :: av) h = none := by
  show (match V.beqL [.agg noM, .int .i64 0, .nils, .str [], .nils, .int .i64 0, .int .i64 0] (.agg (badM v) :: av) with | true => some (_, h) | false => none) = none
  cases e : V.beqL [.agg noM, .int .i64 0, .nils, .str [], .nils, .int .i64 0, .int .i64 0] (.agg (badM v) :: av) with
  | false => rfl
  | true =>
    have := V.beqL_sound _ _ e
    simp only [noM, badM, List.cons.injEq, V.agg.injEq, and_true, true_and] at this
    exact absurd this.1.symm hv
theorem O12n_off : Off12 O12n := { ord := fun _ _ => rfl, cmp := fun _ _ => rfl, cmp2 := fun _ _ => rfl, sm := fun _ _ => rfl, sv := fun _ _ => rfl, pc := fun _ _ => rfl, few := fun _ _ => rfl, small := fun _ _ => rfl, se := fun _ _ => rfl, same := fun _ _ => rfl, c1 := fun _ _ => rfl, c2 := fun _ _ => rfl, c3 := fun _ _ => rfl, cp := fun _ _ => rfl, parts := fun _ _ => rfl, fits := fun _ _ => rfl, check := fun _ _ => rfl, right := fun _ _ => rfl, run := fun _ _ => rfl, bg := O12n_bg, aw := fun _ => rfl, bg0 := fun _ => rfl, r0 := fun _ => rfl, law := fun _ _ => rfl }

theorem baseNone_run {t : Nat → Option V} (ht : FlatT t) (a0 a1 : List V) (w0 : ∃ n, TV n 60 a0) (w1 : ∃ n, TV n 65 a1) (hb : bulkL a0 + bulkL a1 ≤ 1048576) :
    ∃ H', CallsTo (CC t) 7 [.agg a0, .agg a1] Heap.empty (.bool true) H' := by
  obtain ⟨n0, h0⟩ := w0
  obtain ⟨n1, h1⟩ := w1
  obtain ⟨T, k1, k2⟩ := ty_turn h1 (by omega)
  exact calls_of ht (O12n_ok ht) (baseNone_ok O12n_off (ty_ask h0 (by omega)) k1 k2)
end AmT
