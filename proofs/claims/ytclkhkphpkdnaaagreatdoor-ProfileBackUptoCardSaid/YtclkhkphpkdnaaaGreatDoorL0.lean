/-
  Functions of the program as the abstract machine's texts, each proved to be what the translation yields. Conditions: none.
-/
import Derived.Test.YtclkhkphpkdnaaaGreatDoorAmB
import Derived.Test.YtclkhkphpkdnaaaGreatDoorProg
import Derived.KernelRfl
namespace AmT
open Go Am Go.Proofs
set_option maxRecDepth 100000
def one8 : V := .int .u8 1
def zero8 : V := .int .u8 0
def asciiV : V := .agg [zero8, zero8, zero8, zero8, zero8, zero8, zero8, zero8, zero8, one8, one8, one8, one8, one8, zero8, zero8, zero8, zero8, zero8, zero8, zero8, zero8, zero8, zero8, zero8, zero8, zero8, zero8, zero8, zero8, zero8, zero8, one8, zero8, zero8, zero8, zero8, zero8, zero8, zero8, zero8, zero8, zero8, zero8, zero8, zero8, zero8, zero8, zero8, zero8, zero8, zero8, zero8, zero8, zero8, zero8, zero8, zero8, zero8, zero8, zero8, zero8, zero8, zero8, zero8, zero8, zero8, zero8, zero8, zero8, zero8, zero8, zero8, zero8, zero8, zero8, zero8, zero8, zero8, zero8, zero8, zero8, zero8, zero8, zero8, zero8, zero8, zero8, zero8, zero8, zero8, zero8, zero8, zero8, zero8, zero8, zero8, zero8, zero8, zero8, zero8, zero8, zero8, zero8, zero8, zero8, zero8, zero8, zero8, zero8, zero8, zero8, zero8, zero8, zero8, zero8, zero8, zero8, zero8, zero8, zero8, zero8, zero8, zero8, zero8, zero8, zero8, zero8, zero8, zero8, zero8, zero8, zero8, zero8, zero8, zero8, zero8, zero8, zero8, zero8, zero8, zero8, zero8, zero8, zero8, zero8, zero8, zero8, zero8, zero8, zero8, zero8, zero8, zero8, zero8, zero8, zero8, zero8, zero8, zero8, zero8, zero8, zero8, zero8, zero8, zero8, zero8, zero8, zero8, zero8, zero8, zero8, zero8, zero8, zero8, zero8, zero8, zero8, zero8, zero8, zero8, zero8, zero8, zero8, zero8, zero8, zero8, zero8, zero8, zero8, zero8, zero8, zero8, zero8, zero8, zero8, zero8, zero8, zero8, zero8, zero8, zero8, zero8, zero8, zero8, zero8, zero8, zero8, zero8, zero8, zero8, zero8, zero8, zero8, zero8, zero8, zero8, zero8, zero8, zero8, zero8, zero8, zero8, zero8, zero8, zero8, zero8, zero8, zero8, zero8, zero8, zero8, zero8, zero8, zero8, zero8, zero8, zero8, zero8, zero8, zero8, zero8, zero8, zero8, zero8, zero8, zero8, zero8, zero8, zero8, zero8, zero8, zero8, zero8, zero8, zero8]
/-- The listed table; from 'tokB' on: what the tokens are. -/
def glob (t : Nat → Option V) (g : Nat) : Option V := match Nat.blt g tokB with
  | true => if g = 1 then some asciiV else none
  | false => t (g - tokB)
abbrev Ok (t : Nat → Option V) := FnOk Tryz.prog (glob t)
def _root_.Am.AOp.n (k : AK) : AOp := ⟨none, k⟩
def mL (n : Nat) : AOp := ⟨none, .mv (.loc n)⟩
def mV (n : Nat) : AOp := ⟨none, .mv (.var n)⟩
def cI (n : Nat) : Opd := .cst (.int .i64 (.ofNat n))
def cB (n : Nat) : Opd := .cst (.int .u8 (.ofNat n))
def nI (n : Nat) : V := .int .i64 (.ofNat n)
def nB (n : Nat) : V := .int .u8 (.ofNat n)
end AmT
