/-
  RecordCuts' run, over any table of tokens. Conditions: the arguments are plain data, of bulk at most 1048576.
-/
import Derived.Test.YtncbfghlokfmeaaGreatDoorTyRec
import Derived.Test.YtncbfghlokfmeaaGreatDoorRecordCutsRun
import Derived.Test.YtncbfghlokfmeaaGreatDoorAw19
import Derived.Test.YtncbfghlokfmeaaGreatDoorCallsOf
namespace AmT
open Go Am Go.Proofs
set_option maxRecDepth 100000
set_option linter.unusedSimpArgs false
set_option linter.unusedVariables false

def O19 : CallF := memoO [⟨21, [], .bool true⟩]
theorem O19_ok {t : Nat → Option V} (ht : FlatT t) : CallOk (CC t) O19 := memoO_ok (by simp [mAwake19 ht])
theorem O19_off : OffL19 O19 := {
  toAR := { gu := fun _ _ => rfl, gb := fun _ _ => rfl, cb := fun _ _ => rfl, gi := fun _ _ => rfl, fl := fun _ _ => rfl, on_ := fun _ _ => rfl, va := fun _ _ => rfl, ge := fun _ _ => rfl, mv := fun _ _ => rfl, nu := fun _ _ => rfl, ct := fun _ _ => rfl, tg := fun _ _ => rfl, vs := fun _ _ => rfl, rd := fun _ _ => rfl }
  toAW := { toVR := { r1 := fun _ _ => rfl, ri := fun _ _ => rfl }, toVP := { u := fun _ _ => rfl, i := fun _ _ => rfl, bl := fun _ _ => rfl, pt := fun _ _ => rfl }, vp := fun _ _ => rfl, b1 := fun _ _ => rfl, b2 := fun _ _ => rfl, by_ := fun _ _ => rfl }
  toRS := { ord := fun _ _ => rfl, cmp := fun _ _ => rfl, cmp2 := fun _ _ => rfl, sm := fun _ _ => rfl, sv := fun _ _ => rfl, se := fun _ _ => rfl, sm18 := fun _ _ => rfl, sm19 := fun _ _ => rfl }
  toRF := { pc := fun _ _ => rfl, few := fun _ _ => rfl, few19 := fun _ _ => rfl }
  eq := fun _ _ => rfl, pk := fun _ _ => rfl, aw := fun _ => rfl, law := fun _ _ => rfl }

theorem recordCuts_run {t : Nat → Option V} (ht : FlatT t) (a0 a1 : List V) (a2 : Int) (w0 : ∃ n, TV n 68 a0) (w1 : ∃ n, TV n 68 a1) (w2 : (Lit.int .i64 a2).wf = true) (hb : bulkL a0 + bulkL a1 ≤ 1048576) :
    ∃ H', CallsTo (CC t) 8 [.agg a0, .agg a1, .int .i64 a2] Heap.empty (.bool true) H' := by
  obtain ⟨n, hn⟩ := w0
  obtain ⟨m, hm⟩ := w1
  obtain ⟨R, k1, k2, k3, k4⟩ := ty_rec hn (by omega) Heap.empty
  obtain ⟨S, q1, q2, q3, q4⟩ := ty_rec hm (by omega) Heap.empty
  exact calls_of ht (O19_ok ht) (recordCuts_ok O19_off k1 k2 k3 (by omega) q1 q2 q3 (by omega) (fun i z => z.elim))
end AmT
