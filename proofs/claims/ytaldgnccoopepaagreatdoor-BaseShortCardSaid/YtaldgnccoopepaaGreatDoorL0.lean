/-
  Functions of the program as the abstract machine's texts, each proved to be what the translation yields. Conditions: none.
-/
import Derived.Test.YtaldgnccoopepaaGreatDoorAmB
import Derived.Test.YtaldgnccoopepaaGreatDoorProg
import Derived.KernelRfl
namespace AmT
open Go Am Go.Proofs
set_option maxRecDepth 100000
def one8 : V := .int .u8 1
def zero8 : V := .int .u8 0
def asciiV : V := .agg [zero8, zero8, zero8, zero8, zero8, zero8, zero8, zero8, zero8, one8, one8, one8, one8, one8, zero8, zero8, zero8, zero8, zero8, zero8, zero8, zero8, zero8, zero8, zero8, zero8, zero8, zero8, zero8, zero8, zero8, zero8, one8, zero8, zero8, zero8, zero8, zero8, zero8, zero8, zero8, zero8, zero8, zero8, zero8, zero8, zero8, zero8, zero8, zero8, zero8, zero8, zero8, zero8, zero8, zero8, zero8, zero8, zero8, zero8, zero8, zero8, zero8, zero8, zero8, zero8, zero8, zero8, zero8, zero8, zero8, zero8, zero8, zero8, zero8, zero8, zero8, zero8, zero8, zero8, zero8, zero8, zero8, zero8, zero8, zero8, zero8, zero8, zero8, zero8, zero8, zero8, zero8, zero8, zero8, zero8, zero8, zero8, zero8, zero8, zero8, zero8, zero8, zero8, zero8, zero8, zero8, zero8, zero8, zero8, zero8, zero8, zero8, zero8, zero8, zero8, zero8, zero8, zero8, zero8, zero8, zero8, zero8, zero8, zero8, zero8, zero8, zero8, zero8, zero8, zero8, zero8, zero8, zero8, zero8, zero8, zero8, zero8, zero8, zero8, zero8, zero8, zero8, zero8, zero8, zero8, zero8, zero8, zero8, zero8, zero8, zero8, zero8, zero8, zero8, zero8, zero8, zero8, zero8, zero8, zero8, zero8, zero8, zero8, zero8, zero8, zero8, zero8, zero8, zero8, zero8, zero8, zero8, zero8, zero8, zero8, zero8, zero8, zero8, zero8, zero8, zero8, zero8, zero8, zero8, zero8, zero8, zero8, zero8, zero8, zero8, zero8, zero8, zero8, zero8, zero8, zero8, zero8, zero8, zero8, zero8, zero8, zero8, zero8, zero8, zero8, zero8, zero8, zero8, zero8, zero8, zero8, zero8, zero8, zero8, zero8, zero8, zero8, zero8, zero8, zero8, zero8, zero8, zero8, zero8, zero8, zero8, zero8, zero8, zero8, zero8, zero8, zero8, zero8, zero8, zero8, zero8, zero8, zero8, zero8, zero8, zero8, zero8, zero8, zero8, zero8, zero8, zero8, zero8, zero8, zero8, zero8, zero8, zero8, zero8, zero8]
def glob (g : Nat) : Option V := if g = 1 then some asciiV else none
abbrev Ok := FnOk Tryz.prog glob
end AmT
