/-
  Adding profiles hangs not on the order; nothing that was seen is lost. Conditions: what was seen is bytes.
-/
import Derived.Test.YtclkhkphpkdnaaaGreatDoorAddLaw
namespace AmT
open Go Am
set_option linter.unusedSimpArgs false
set_option linter.unusedVariables false

theorem addP_comm (P Q : List SeenT) : addP P Q = addP Q P := by
  apply List.ext_getElem?
  intro i
  simp only [addP_get]
  cases P[i]? <;> cases Q[i]? <;> simp only [optAdd, addS_comm]

theorem or8_self {a : Int} (h : 0 ≤ a ∧ a ≤ 255) : or8 a a = a := by
  rw [or8_eq, BitVec.or_self, BitVec.toNat_ofInt]
  omega
theorem or8_keep (b : Int) {a : Int} (h : 0 ≤ a ∧ a ≤ 255) : or8 (or8 a b) a = or8 a b := by
  rw [or8_comm a b, or8_assoc, or8_self h]

/-- What was seen by one is seen by two. -/
theorem sum_top {P Q : List SeenT} {i k : Nat} {s : SeenT} {t : Int × Int} (hs : P[i]? = some s) (ht : s.2[k]? = some t) (hy : TyTop t) :
    ∃ s' t', (addP P Q)[i]? = some s' ∧ s'.2[k]? = some t' ∧ or8 t'.1 t.1 = t'.1 ∧ or8 t'.2 t.2 = t'.2 := by
  rw [addP_get, hs]
  cases hq : Q[i]? with
  | none => exact ⟨nrm s, t, rfl, ht, or8_self hy.1, or8_self hy.2⟩
  | some q =>
    refine ⟨addS s q, ?_⟩
    show ∃ t', some (addS s q) = some (addS s q) ∧ (orTops s.2 q.2)[k]? = some t' ∧ _
    rw [orTops_get, ht]
    cases hu : q.2[k]? with
    | none => exact ⟨t, rfl, rfl, or8_self hy.1, or8_self hy.2⟩
    | some u => exact ⟨orTop t u, rfl, rfl, or8_keep _ hy.1, or8_keep _ hy.2⟩
end AmT
