/-
  The modules that texts of BaseReckons are, part A. Conditions: none.
-/
import Derived.Test.YtflchelidalhnaaGreatDoorW
namespace AmT
open Go Am Go.Proofs
set_option maxRecDepth 100000
theorem mModR4 {t : Nat → Option V} (ht : FlatT t) : Memo.ok (CC t) ⟨14, [.str (preR ++ signR 4 ++ postR)], .agg (modC (modK 4))⟩ := memo_runR mixed (globFlat ht) (tOk t) (O1_ok ht) 4000 1000 (by kernel_rfl) (by kernel_rfl)
theorem mCkR4 {t : Nat → Option V} (ht : FlatT t) : Memo.ok (CC t) ⟨45, [.agg (modC (modK 4))], .int .i64 (.ofNat 0)⟩ := memo_runR mixed (globFlat ht) (tOk t) (noO_ok _) 4000 1000 (by kernel_rfl) (by kernel_rfl)
theorem mModR5 {t : Nat → Option V} (ht : FlatT t) : Memo.ok (CC t) ⟨14, [.str (preR ++ signR 5 ++ postR)], .agg (modC (modK 5))⟩ := memo_runR mixed (globFlat ht) (tOk t) (O1_ok ht) 4000 1000 (by kernel_rfl) (by kernel_rfl)
theorem mCkR5 {t : Nat → Option V} (ht : FlatT t) : Memo.ok (CC t) ⟨45, [.agg (modC (modK 5))], .int .i64 (.ofNat 0)⟩ := memo_runR mixed (globFlat ht) (tOk t) (noO_ok _) 4000 1000 (by kernel_rfl) (by kernel_rfl)
end AmT
