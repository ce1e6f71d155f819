/-
  The tokens of BaseSums' text are read, part C. Conditions: none.
-/
import Derived.Test.YtfiajgdgjajcnaaGreatDoorSumNx
namespace AmT
open Go Am Go.Proofs
set_option maxRecDepth 100000
theorem nxS3 {t : Nat → Option V} (ht : FlatT t) : ∀ x ∈ tokS3, Memo.ok (CC t) ⟨178, [.str textSums, .int .i64 (.ofNat x.q)], x.v textSums⟩ := nextB_ok ht (by kernel_rfl)
end AmT
