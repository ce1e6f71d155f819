/-
  Adding profiles hangs not on how it is put together. Conditions: none.
-/
import Derived.Test.YtclkhkphpkdnaaaGreatDoorAdd
namespace AmT
open Go Am
set_option linter.unusedSimpArgs false
set_option linter.unusedVariables false

theorem bnd_range (n : Int) : 0 ≤ bnd n ∧ bnd n ≤ 1099511627776 := by
  unfold bnd
  simp only
  split <;> split <;> omega
theorem bnd_id {n : Int} (h0 : 0 ≤ n) (h1 : n ≤ 1099511627776) : bnd n = n := by
  unfold bnd
  simp only
  split <;> split <;> omega
theorem bnd_bnd (n : Int) : bnd (bnd n) = bnd n := bnd_id (bnd_range n).1 (bnd_range n).2
/-- Two counts, bounded. -/
theorem addC (a b : Int) : bnd (wrapK .i64 (Int.add (bnd a) (bnd b))) = min (bnd a + bnd b) 1099511627776 := by
  have h1 := bnd_range a
  have h2 := bnd_range b
  have e1 : Int.add (bnd a) (bnd b) = bnd a + bnd b := rfl
  rw [wrapK_eq, e1, wrap_i64_of (by omega) (by omega)]
  unfold bnd at *
  simp only at *
  generalize (if (if (1099511627776 : Int) < a then 1099511627776 else a) > 0 then (if (1099511627776 : Int) < a then 1099511627776 else a) else 0) = A at *
  generalize (if (if (1099511627776 : Int) < b then 1099511627776 else b) > 0 then (if (1099511627776 : Int) < b then 1099511627776 else b) else 0) = B at *
  split <;> split <;> omega

theorem or8_eq (a b : Int) : or8 a b = ((BitVec.ofInt 8 a ||| BitVec.ofInt 8 b).toNat : Int) := by
  unfold or8
  have := (BitVec.ofInt 8 a ||| BitVec.ofInt 8 b).isLt
  simp only [IntKind.wrap, IntKind.signed, IntKind.bits, Bool.false_and, Bool.false_eq_true, if_false]
  omega
theorem or8_comm (a b : Int) : or8 a b = or8 b a := by rw [or8_eq, or8_eq, BitVec.or_comm]
theorem ofInt_toNat (x : BitVec 8) : BitVec.ofInt 8 (x.toNat : Int) = x := by
  apply BitVec.eq_of_toNat_eq
  have := x.isLt
  rw [BitVec.toNat_ofInt]
  omega
theorem or8_assoc (a b c : Int) : or8 (or8 a b) c = or8 a (or8 b c) := by
  rw [or8_eq, or8_eq a b, ofInt_toNat, or8_eq a, or8_eq b c, ofInt_toNat, BitVec.or_assoc]
theorem orTop_comm (t u : Int × Int) : orTop t u = orTop u t := by simp only [orTop, or8_comm t.1, or8_comm t.2]
theorem orTop_assoc (t u w : Int × Int) : orTop (orTop t u) w = orTop t (orTop u w) := by simp only [orTop, or8_assoc]

def optOr : Option (Int × Int) → Option (Int × Int) → Option (Int × Int)
  | some a, some b => some (orTop a b)
  | some a, none => some a
  | none, y => y

theorem orTops_get (A B : List (Int × Int)) (j : Nat) : (orTops A B)[j]? = optOr A[j]? B[j]? := by
  unfold orTops
  split
  · rename_i h
    rw [orTo_get]
    split
    · rename_i hj
      rw [List.getElem?_eq_getElem hj, List.getElem?_eq_getElem (show j < A.length by omega)]
      rfl
    · rename_i hj
      rw [List.getElem?_eq_none (show B.length ≤ j by omega)]
      cases A[j]? <;> rfl
  · rename_i h
    rw [orTo_get]
    split
    · rename_i hj
      rw [List.getElem?_eq_getElem hj, List.getElem?_eq_getElem (show j < B.length by omega)]
      simp only [optOr, orTop_comm]
    · rename_i hj
      rw [List.getElem?_eq_none (show A.length ≤ j by omega)]
      rfl

theorem orTops_assoc (A B C : List (Int × Int)) : orTops (orTops A B) C = orTops A (orTops B C) := by
  apply List.ext_getElem?
  intro j
  simp only [orTops_get]
  cases A[j]? <;> cases B[j]? <;> cases C[j]? <;> simp only [optOr, orTop_assoc]

theorem orTops_comm (A B : List (Int × Int)) : orTops A B = orTops B A := by
  apply List.ext_getElem?
  intro j
  simp only [orTops_get]
  cases A[j]? <;> cases B[j]? <;> simp only [optOr]
  rw [orTop_comm]

theorem addS_comm (s t : SeenT) : addS s t = addS t s := by
  simp only [addS, addC, orTops_comm s.2, Int.add_comm (bnd s.1)]

def nrm (s : SeenT) : SeenT := (bnd s.1, s.2)
def optAdd : Option SeenT → Option SeenT → Option SeenT
  | some s, some t => some (addS s t)
  | some s, none => some (nrm s)
  | none, some t => some (nrm t)
  | none, none => none

theorem addP_get (P Q : List SeenT) (i : Nat) : (addP P Q)[i]? = optAdd P[i]? Q[i]? := by
  unfold addP
  split
  · rename_i h
    rw [addL_get]
    by_cases hi : i < P.length
    · rw [List.getElem?_eq_getElem hi]
      cases Q[i]? <;> rfl
    · rw [List.getElem?_eq_none (show P.length ≤ i by omega), List.getElem?_eq_none (show Q.length ≤ i by omega)]
      rfl
  · rename_i h
    rw [addL_get]
    by_cases hi : i < Q.length
    · rw [List.getElem?_eq_getElem hi]
      cases P[i]? with
      | none => rfl
      | some s => simp only [optAdd, addS_comm]
    · rw [List.getElem?_eq_none (show Q.length ≤ i by omega), List.getElem?_eq_none (show P.length ≤ i by omega)]
      rfl

theorem addS_nrm_l (s t : SeenT) : addS (nrm s) t = addS s t := by simp only [addS, nrm, bnd_bnd]
theorem addS_nrm_r (s t : SeenT) : addS s (nrm t) = addS s t := by simp only [addS, nrm, bnd_bnd]
theorem nrm_addS (s t : SeenT) : nrm (addS s t) = addS s t := by simp only [nrm, addS, bnd_bnd]
theorem nrm_nrm (s : SeenT) : nrm (nrm s) = nrm s := by simp only [nrm, bnd_bnd]
theorem addS_assoc (s t u : SeenT) : addS (addS s t) u = addS s (addS t u) := by
  simp only [addS, orTops_assoc, addC]
  have h1 := bnd_range s.1
  have h2 := bnd_range t.1
  have h3 := bnd_range u.1
  rw [bnd_id (n := min (bnd s.1 + bnd t.1) 1099511627776) (by omega) (by omega), bnd_id (n := min (bnd t.1 + bnd u.1) 1099511627776) (by omega) (by omega)]
  congr 1
  omega

theorem addP_assoc (P Q C : List SeenT) : addP (addP P Q) C = addP P (addP Q C) := by
  apply List.ext_getElem?
  intro i
  simp only [addP_get]
  cases P[i]? <;> cases Q[i]? <;> cases C[i]? <;> simp only [optAdd, addS_assoc, addS_nrm_l, addS_nrm_r, nrm_addS, nrm_nrm]

theorem addP_nil (P : List SeenT) : addP P [] = addP [] P := by
  apply List.ext_getElem?
  intro i
  simp only [addP_get]
  cases P[i]? <;> simp [optAdd]

theorem addP_len (P Q : List SeenT) : (addP P Q).length = max P.length Q.length := by
  unfold addP
  split <;> rw [addL_len] <;> omega
end AmT
