/-
  What every closed run over these functions needs, and the contracts of two closed calls: the key words' list, and the examples of chapter 12. Conditions: none.
-/
import Derived.Test.YtfiajgdgjajcnaaGreatDoorLT
import Derived.Test.YtfiajgdgjajcnaaGreatDoorAmC
import Derived.Eval
namespace AmT
open Go Am Go.Proofs
set_option maxRecDepth 100000
theorem mixed : Tryz.prog.follows .mixedOrders = true := by kernel_rfl
/-- What the tokens are holds no number of an object. -/
def FlatT (t : Nat → Option V) : Prop := ∀ i v, t i = some v → Flat v
def noT : Nat → Option V := fun _ => none
theorem noT_flat : FlatT noT := fun _ _ h => by cases h
theorem globFlat {t : Nat → Option V} (ht : FlatT t) : ∀ g v, glob t g = some v → Flat (.vptr v 0) := by
  intro g v h
  unfold glob at h
  split at h
  · split at h
    · simp only [Option.some.injEq] at h; subst h
      exact flatB_ok _ (by kernel_rfl)
    · cases h
  · exact .vptr (flat_cells (ht _ _ h))
theorem tOk (t : Nat → Option V) : TableOk Tryz.prog (glob t) tab.get := tableOk (tab_ok t)
noncomputable abbrev CC (t : Nat → Option V) : Ctx := ⟨Tryz.prog, glob t⟩
theorem tok_glob {t : Nat → Option V} (i : Nat) : (CC t).glob (tokB + i) = t i := by
  show glob t (tokB + i) = t i
  unfold glob
  have : Nat.blt (tokB + i) tokB = false := by
    cases h : Nat.blt (tokB + i) tokB with
    | false => rfl
    | true => simp [Nat.blt] at h; omega
  rw [this]
  simp only
  rw [show tokB + i - tokB = i from by omega]
def kwT : List UInt8 := [97, 99, 116, 111, 114, 32, 98, 101, 99, 111, 109, 101, 32, 99, 97, 108, 108, 32, 101, 108, 115, 101, 32, 102, 97, 108, 115, 101, 32, 102, 117, 110, 99, 32, 105, 102, 32, 108, 101, 110, 32, 108, 101, 116, 32, 111, 110, 32, 114, 101, 116, 117, 114, 110, 32, 115, 101, 108, 102, 32, 115, 101, 110, 100, 32, 115, 101, 116, 32, 115, 112, 97, 119, 110, 32, 115, 116, 111, 112, 32, 116, 114, 117, 101, 32, 119, 104, 105, 108, 101]
def kwV : V := .vec [.agg [.str [97, 99, 116, 111, 114]], .agg [.str [98, 101, 99, 111, 109, 101]], .agg [.str [99, 97, 108, 108]], .agg [.str [101, 108, 115, 101]], .agg [.str [102, 97, 108, 115, 101]], .agg [.str [102, 117, 110, 99]], .agg [.str [105, 102]], .agg [.str [108, 101, 110]], .agg [.str [108, 101, 116]], .agg [.str [111, 110]], .agg [.str [114, 101, 116, 117, 114, 110]], .agg [.str [115, 101, 108, 102]], .agg [.str [115, 101, 110, 100]], .agg [.str [115, 101, 116]], .agg [.str [115, 112, 97, 119, 110]], .agg [.str [115, 116, 111, 112]], .agg [.str [116, 114, 117, 101]], .agg [.str [119, 104, 105, 108, 101]]]
theorem mFields {t : Nat → Option V} (ht : FlatT t) : Memo.ok (CC t) ⟨276, [.str kwT], kwV⟩ := memo_runR mixed (globFlat ht) (tOk t) (noO_ok (CC t)) 4000 1000 (by kernel_rfl) (by kernel_rfl)
def O1 : CallF := memoO [⟨276, [.str kwT], kwV⟩]
theorem O1_ok {t : Nat → Option V} (ht : FlatT t) : CallOk (CC t) O1 := memoO_ok (by simp [mFields ht])
end AmT
