/-
  The runs of BaseEnds at any byte and any number. Conditions: the byte is one.
-/
import Derived.Test.YtaldgnccoopepaaGreatDoorArith
namespace AmT
open Go Am Go.Proofs
set_option maxRecDepth 100000
def bEnds (f : Nat) : BinOp → Bool := match Nat.beq f 4 with
  | true => fun op => (match op with | .rem => true | _ => false)
  | false => fun _ => false

abbrev remE (w : Int) (r : Int) : LE := .bin .rem .plain (.int .u8 w) (.int .u8 4) (.int .u8 r)

/-- Token 0: a number. -/
def tN (n : Int) : Nat → Option V
  | 0 => some (.int .i64 n)
  | _ => none
theorem tN_flat (n : Int) : FlatT (tN n) := by
  intro i v h
  unfold tN at h
  split at h
  · simp only [Option.some.injEq] at h; subst h; exact .int _ _
  · cases h
theorem tN_glob (n : Int) : (CC (tN n)).glob (tokB + 0) = some (.int .i64 n) := tok_glob 0

abbrev s0 : V := .sym 0
abbrev vS : V := .agg [.int .u8 1, s0, .str [], .nils]

theorem arithS (n : Int) : Memo.ok (CC (tN n)) ⟨262, [.int .u8 6, s0, .int .i64 0], .tuple [.int .i64 0, .int .i64 0]⟩ :=
  Memo.rep (v := .tuple [.int .i64 0, .int .i64 0]) (args := [.int .u8 6, .int .i64 n, .int .i64 0]) rfl (by
    intro i a' a h' h
    match i, h', h with
    | 0, h', h => simp at h' h; subst h' h; exact .refl _ _
    | 1, h', h => simp at h' h; subst h' h; exact .sym (tN_glob n)
    | 2, h', h => simp at h' h; subst h' h; exact .refl _ _
    | _ + 3, h', _ => simp at h') (.refl _ _) (arith0 (tN_flat n) n)

theorem vS_rep (n : Int) : Rep (CC (tN n)) vS (vN n) := .agg rfl (by
  intro i a' a h' h
  match i, h', h with
  | 0, h', h => simp at h' h; subst h' h; exact .refl _ _
  | 1, h', h => simp at h' h; subst h' h; exact .sym (tN_glob n)
  | 2, h', h => simp at h' h; subst h' h; exact .refl _ _
  | 3, h', h => simp at h' h; subst h' h; exact .refl _ _
  | _ + 4, h', _ => simp at h')

theorem sameS (n : Int) : Memo.ok (CC (tN n)) ⟨55, [vS, vS], .bool true⟩ :=
  Memo.rep (v := .bool true) (args := [vN n, vN n]) rfl (by
    intro i a' a h' h
    match i, h', h with
    | 0, h', h => simp at h' h; subst h' h; exact vS_rep n
    | 1, h', h => simp at h' h; subst h' h; exact vS_rep n
    | _ + 2, h', _ => simp at h') (.refl _ _) (same_nn (tN_flat n) n)

def O3 : CallF := memoO [⟨16, [], .bool true⟩, ⟨298, [.str kwT], kwV⟩, ⟨262, [.int .u8 6, s0, .int .i64 0], .tuple [.int .i64 0, .int .i64 0]⟩, ⟨55, [vS, vS], .bool true⟩]
theorem O3_ok (n : Int) : CallOk (CC (tN n)) O3 := memoO_ok (by simp [mFields (tN_flat n), mAwake12 (tN_flat n), arithS n, sameS n])

theorem ends0 (w n : Int) (h : w.tmod 4 = 0) : Memo.ok (CC (tN n)) ⟨4, [.int .u8 w, s0], .bool true⟩ :=
  script_runR (A := noA) (B := bEnds) (Q := noO) (script := [.val (.int .u8 0), .val (.int .u8 0)]) (log := [remE w 0, remE w 0])
    mixed (globFlat (tN_flat n)) (tOk (tN n)) (O3_ok n) (noO_ok (CC (tN n))) noA_none 4000 1000 (by kernel_rfl) (by kernel_rfl) (by
      intro e he
      simp only [List.mem_cons, List.not_mem_nil, or_false] at he
      rcases he with rfl | rfl <;> simp [LE.ok, binV, intBin, h])

theorem ends1 (w n : Int) (h : w.tmod 4 = 1) : Memo.ok (CC (tN n)) ⟨4, [.int .u8 w, s0], .bool true⟩ :=
  script_runR (A := noA) (B := bEnds) (Q := noO) (script := [.val (.int .u8 1), .val (.int .u8 1)]) (log := [remE w 1, remE w 1])
    mixed (globFlat (tN_flat n)) (tOk (tN n)) (O3_ok n) (noO_ok (CC (tN n))) noA_none 4000 1000 (by kernel_rfl) (by kernel_rfl) (by
      intro e he
      simp only [List.mem_cons, List.not_mem_nil, or_false] at he
      rcases he with rfl | rfl <;> simp [LE.ok, binV, intBin, h])
end AmT
