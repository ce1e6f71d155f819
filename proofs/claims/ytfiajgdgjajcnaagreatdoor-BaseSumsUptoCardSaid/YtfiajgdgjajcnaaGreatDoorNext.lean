/-
  Tokens of a text as one oracle: what words.Next answers at places of one text. Conditions: that it does.
-/
import Derived.Test.YtfiajgdgjajcnaaGreatDoorW
namespace AmT
open Go Am
/-- A token: where it was asked for, its kind, its number, from where to where it stands. -/
structure Tok where
  q : Nat
  k : Nat
  n : Nat
  a : Nat
  e : Nat
def Tok.v (t : List UInt8) (x : Tok) : V := .tuple [.agg [.int .u8 (.ofNat x.k), .str (match Nat.ble 3 x.k && Nat.ble x.k 5 with | true => (t.drop x.a).take (x.e - x.a) | false => []), .int .i64 (.ofNat x.n), .int .i64 (.ofNat 1), .int .i64 (.ofNat x.a), .int .i64 (.ofNat x.e)], .agg [.int .i64 (.ofNat 0), .int .i64 (.ofNat 0)]]
def findT : List Tok → Nat → Option Tok
  | [], _ => none
  | x :: l, n => match Nat.beq x.q n with
    | true => some x
    | false => findT l n
theorem findT_mem : ∀ {l : List Tok} {n x}, findT l n = some x → x ∈ l ∧ x.q = n
  | [], _, _, h => by cases h
  | y :: l, n, x, h => by
    unfold findT at h
    split at h
    · rename_i e
      cases h
      exact ⟨List.mem_cons_self .., nbeq.1 e⟩
    · obtain ⟨a, b⟩ := findT_mem h
      exact ⟨List.mem_cons_of_mem _ a, b⟩
def nextO (f0 : Nat) (t : List UInt8) (l : List Tok) : CallF := fun f args h => match Nat.beq f0 f with
  | true => match args with
    | [.str s, .int .i64 (.ofNat n)] => match V.beqL [.str t] [.str s] with
      | true => (findT l n).map fun x => (x.v t, h)
      | false => none
    | _ => none
  | false => none
theorem nextO_ok {C : Ctx} {f0 : Nat} {t : List UInt8} {l : List Tok} (hl : ∀ x ∈ l, Memo.ok C ⟨f0, [.str t, .int .i64 (.ofNat x.q)], x.v t⟩) : CallOk C (nextO f0 t l) := by
  intro f args H v H' he
  unfold nextO at he
  split at he
  · rename_i hf
    split at he
    · rename_i s n
      split at he
      · rename_i hs
        have e1 := V.beqL_sound _ _ hs
        have e2 := nbeq.1 hf
        cases e1
        subst e2
        cases hx : findT l n with
        | none => rw [hx] at he; cases he
        | some x =>
          rw [hx] at he
          obtain ⟨a, b⟩ := findT_mem hx
          cases he
          rw [← b]
          exact hl x a H
      · cases he
    · cases he
  · cases he
def orO (a b : CallF) : CallF := fun f args h => match a f args h with
  | some r => some r
  | none => b f args h
theorem orO_ok {C : Ctx} {a b : CallF} (ha : CallOk C a) (hb : CallOk C b) : CallOk C (orO a b) := by
  intro f args H v H' he
  unfold orO at he
  split at he
  · rename_i r e
    cases he
    exact ha _ _ _ _ _ e
  · exact hb _ _ _ _ _ he
noncomputable def nextB (O : CallF) (f0 : Nat) (t : List UInt8) (x : Tok) : Bool := match (runR tab.get O 4000 f0 [.str t, .int .i64 (.ofNat x.q)] Heap.empty).bind fun r => flatV r.2 1000 r.1 with
  | some v => V.beqL [v] [x.v t]
  | none => false
end AmT
