/-
  Contracts of some small functions at any numbers: two equal numbers are in no order; a value of a number is the same as itself; a number times 0 is 0. Conditions: none.
-/
import Derived.Test.YtaldgnccoopepaaGreatDoorW
namespace AmT
open Go Am Go.Proofs
set_option maxRecDepth 100000

variable {t : Nat → Option V}

def noA : Nat → Bool := fun _ => false
theorem noA_none (f : Nat) (args : List V) (H : Heap) (_ : noA f = false) : noO f args H = none := rfl

def bOrder (f : Nat) : BinOp → Bool := match Nat.beq f 263 with
  | true => fun op => (match op with | .lss | .gtr => true | _ => false)
  | false => fun _ => false

theorem order_nn (ht : FlatT t) (n : Int) : Memo.ok (CC t) ⟨263, [.int .i64 n, .int .i64 n], .int .i64 0⟩ :=
  script_runR (A := noA) (B := bOrder) (Q := noO) (script := [.val (.bool false), .val (.bool false)])
    (log := [.bin .gtr .plain (.int .i64 n) (.int .i64 n) (.bool false), .bin .lss .plain (.int .i64 n) (.int .i64 n) (.bool false)])
    mixed (globFlat ht) (tOk t) (O1_ok ht) (noO_ok (CC t)) noA_none 4000 1000 (by kernel_rfl) (by kernel_rfl) (by
      intro e he
      simp only [List.mem_cons, List.not_mem_nil, or_false] at he
      rcases he with rfl | rfl <;> simp [LE.ok, binV, intBin])

abbrev vN (n : Int) : V := .agg [.int .u8 1, .int .i64 n, .str [], .nils]
def aOrder (f : Nat) : Bool := Nat.beq f 263

theorem same_nn (ht : FlatT t) (n : Int) : Memo.ok (CC t) ⟨55, [vN n, vN n], .bool true⟩ :=
  script_runR (A := aOrder) (B := fun _ _ => false) (Q := factO [⟨263, [.int .i64 1, .int .i64 1], .int .i64 0⟩, ⟨263, [.int .i64 n, .int .i64 n], .int .i64 0⟩])
    (script := [.ans 263 (.int .i64 0), .ans 263 (.int .i64 0)])
    (log := [.call 263 [.int .i64 n, .int .i64 n] (.int .i64 0), .call 263 [.int .i64 1, .int .i64 1] (.int .i64 0)])
    mixed (globFlat ht) (tOk t) (O1_ok ht) (factO_ok (by simp [order_nn ht])) (factO_none (by simp [aOrder])) 4000 1000 (by kernel_rfl) (by kernel_rfl) (by
      intro e he
      simp only [List.mem_cons, List.not_mem_nil, or_false] at he
      rcases he with rfl | rfl <;> simp [LE.ok, factO])

def bMul (f : Nat) : BinOp → Bool := match Nat.beq f 262 with
  | true => fun op => (match op with | .lss | .neq => true | _ => false)
  | false => match Nat.beq f 267 with
    | true => fun op => (match op with | .mul => true | _ => false)
    | false => fun _ => false

abbrev u0 : V := .int .u64 0
abbrev lo32 (n : Int) : Int := IntKind.u64.wrap (BitVec.ofInt IntKind.u64.bits (IntKind.u64.wrap n) &&& BitVec.ofInt IntKind.u64.bits 4294967295).toNat
abbrev hi32 (n : Int) : Int := (IntKind.u64.wrap n).fdiv (2 ^ (min (32 : Int).toNat IntKind.u64.bits))

theorem wrap0 (k : IntKind) : k.wrap 0 = 0 := by cases k <;> rfl

theorem arith0_run (ht : FlatT t) (n : Int) (neg : Bool) (h : decide (n < 0) = neg) : Memo.ok (CC t) ⟨262, [.int .u8 6, .int .i64 n, .int .i64 0], .tuple [.int .i64 0, .int .i64 0]⟩ := by
  cases neg with
  | false =>
    exact script_runR (A := noA) (B := bMul) (Q := noO) (script := [.val u0, .val u0, .val u0, .val u0, .val u0, .val (.bool false), .val (.bool false), .val (.bool false)])
      (log := [.bin .neq .plain (.int .i64 0) (.int .i64 0) (.bool false), .bin .lss .plain (.int .i64 0) (.int .i64 0) (.bool false), .bin .lss .plain (.int .i64 n) (.int .i64 0) (.bool false),
        .bin .mul .plain (.int .u64 (IntKind.u64.wrap n)) u0 u0, .bin .mul .plain (.int .u64 (hi32 n)) u0 u0, .bin .mul .plain (.int .u64 (lo32 n)) u0 u0, .bin .mul .plain (.int .u64 (hi32 n)) u0 u0, .bin .mul .plain (.int .u64 (lo32 n)) u0 u0])
      mixed (globFlat ht) (tOk t) (O1_ok ht) (noO_ok (CC t)) noA_none 4000 1000 (by kernel_rfl) (by kernel_rfl) (by
        intro e he
        simp only [List.mem_cons, List.not_mem_nil, or_false] at he
        rcases he with rfl | rfl | rfl | rfl | rfl | rfl | rfl | rfl <;> simp [LE.ok, binV, intBin, wrap0, h])
  | true =>
    exact script_runR (A := noA) (B := bMul) (Q := noO) (script := [.val u0, .val u0, .val u0, .val u0, .val u0, .val (.bool true), .val (.bool false), .val (.bool false)])
      (log := [.bin .neq .plain (.int .i64 0) (.int .i64 0) (.bool false), .bin .lss .plain (.int .i64 0) (.int .i64 0) (.bool false), .bin .lss .plain (.int .i64 n) (.int .i64 0) (.bool true),
        .bin .mul .plain (.int .u64 (IntKind.u64.wrap n)) u0 u0, .bin .mul .plain (.int .u64 (hi32 n)) u0 u0, .bin .mul .plain (.int .u64 (lo32 n)) u0 u0, .bin .mul .plain (.int .u64 (hi32 n)) u0 u0, .bin .mul .plain (.int .u64 (lo32 n)) u0 u0])
      mixed (globFlat ht) (tOk t) (O1_ok ht) (noO_ok (CC t)) noA_none 4000 1000 (by kernel_rfl) (by kernel_rfl) (by
        intro e he
        simp only [List.mem_cons, List.not_mem_nil, or_false] at he
        rcases he with rfl | rfl | rfl | rfl | rfl | rfl | rfl | rfl <;> simp [LE.ok, binV, intBin, wrap0, h])

theorem arith0 (ht : FlatT t) (n : Int) : Memo.ok (CC t) ⟨262, [.int .u8 6, .int .i64 n, .int .i64 0], .tuple [.int .i64 0, .int .i64 0]⟩ := arith0_run ht n _ rfl
theorem arith09 (ht : FlatT t) : Memo.ok (CC t) ⟨262, [.int .u8 4, .int .i64 0, .int .i64 9], .tuple [.int .i64 9, .int .i64 0]⟩ := memo_runR mixed (globFlat ht) (tOk t) (O1_ok ht) 4000 1000 (by kernel_rfl) (by kernel_rfl)
end AmT
