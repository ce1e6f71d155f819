/-
  Functions of the program as the abstract machine's texts, each proved to be what the translation yields. Conditions: none.
-/
import Derived.Test.YtfiajgdgjajcnaaGreatDoorAmB
import Derived.Test.YtfiajgdgjajcnaaGreatDoorProg
import Derived.KernelRfl
namespace AmT
open Go Am Go.Proofs
set_option maxRecDepth 100000
def one8:V:=.int .u8 1
def zero8:V:=.int .u8 0
def asciiV:V:=.agg [zero8,zero8,zero8,zero8,zero8,zero8,zero8,zero8,zero8,one8,one8,one8,one8,one8,zero8,zero8,zero8,zero8,zero8,zero8,zero8,zero8,zero8,zero8,zero8,zero8,zero8,zero8,zero8,zero8,zero8,zero8,one8,zero8,zero8,zero8,zero8,zero8,zero8,zero8,zero8,zero8,zero8,zero8,zero8,zero8,zero8,zero8,zero8,zero8,zero8,zero8,zero8,zero8,zero8,zero8,zero8,zero8,zero8,zero8,zero8,zero8,zero8,zero8,zero8,zero8,zero8,zero8,zero8,zero8,zero8,zero8,zero8,zero8,zero8,zero8,zero8,zero8,zero8,zero8,zero8,zero8,zero8,zero8,zero8,zero8,zero8,zero8,zero8,zero8,zero8,zero8,zero8,zero8,zero8,zero8,zero8,zero8,zero8,zero8,zero8,zero8,zero8,zero8,zero8,zero8,zero8,zero8,zero8,zero8,zero8,zero8,zero8,zero8,zero8,zero8,zero8,zero8,zero8,zero8,zero8,zero8,zero8,zero8,zero8,zero8,zero8,zero8,zero8,zero8,zero8,zero8,zero8,zero8,zero8,zero8,zero8,zero8,zero8,zero8,zero8,zero8,zero8,zero8,zero8,zero8,zero8,zero8,zero8,zero8,zero8,zero8,zero8,zero8,zero8,zero8,zero8,zero8,zero8,zero8,zero8,zero8,zero8,zero8,zero8,zero8,zero8,zero8,zero8,zero8,zero8,zero8,zero8,zero8,zero8,zero8,zero8,zero8,zero8,zero8,zero8,zero8,zero8,zero8,zero8,zero8,zero8,zero8,zero8,zero8,zero8,zero8,zero8,zero8,zero8,zero8,zero8,zero8,zero8,zero8,zero8,zero8,zero8,zero8,zero8,zero8,zero8,zero8,zero8,zero8,zero8,zero8,zero8,zero8,zero8,zero8,zero8,zero8,zero8,zero8,zero8,zero8,zero8,zero8,zero8,zero8,zero8,zero8,zero8,zero8,zero8,zero8,zero8,zero8,zero8,zero8,zero8,zero8,zero8,zero8,zero8,zero8,zero8,zero8,zero8,zero8,zero8,zero8,zero8,zero8,zero8,zero8,zero8,zero8,zero8,zero8]
def glob (t:Nat→Option V) (g:Nat):Option V:=match Nat.blt g tokB with
 | true=>if g=1 then some asciiV else none
 | false=>t (g - tokB)
abbrev Ok (t:Nat→Option V):=FnOk Tryz.prog (glob t)
def _root_.Am.AOp.n (k:AK):AOp:=⟨none,k⟩
def mL (n:Nat):AOp:=⟨none,.mv (.loc n)⟩
def mV (n:Nat):AOp:=⟨none,.mv (.var n)⟩
def cI (n:Nat):Opd:=.cst (.int .i64 (.ofNat n))
def cB (n:Nat):Opd:=.cst (.int .u8 (.ofNat n))
def nI (n:Nat):V:=.int .i64 (.ofNat n)
def nB (n:Nat):V:=.int .u8 (.ofNat n)
def L0:Opd:=.loc 0
def L1:Opd:=.loc 1
def L2:Opd:=.loc 2
def L3:Opd:=.loc 3
def L4:Opd:=.loc 4
def L5:Opd:=.loc 5
def L6:Opd:=.loc 6
def L7:Opd:=.loc 7
def L8:Opd:=.loc 8
def L9:Opd:=.loc 9
def V0:Opd:=.var 0
def V1:Opd:=.var 1
def V2:Opd:=.var 2
def V3:Opd:=.var 3
def V4:Opd:=.var 4
def V5:Opd:=.var 5
def V6:Opd:=.var 6
def V7:Opd:=.var 7
def V8:Opd:=.var 8
def V9:Opd:=.var 9
def V10:Opd:=.var 10
def V11:Opd:=.var 11
def V12:Opd:=.var 12
def V13:Opd:=.var 13
def V14:Opd:=.var 14
def V15:Opd:=.var 15
def V16:Opd:=.var 16
def V17:Opd:=.var 17
def V18:Opd:=.var 18
def V19:Opd:=.var 19
def V20:Opd:=.var 20
def V21:Opd:=.var 21
def V22:Opd:=.var 22
def V23:Opd:=.var 23
def V24:Opd:=.var 24
def V25:Opd:=.var 25
def V26:Opd:=.var 26
def V27:Opd:=.var 27
def V28:Opd:=.var 28
def V29:Opd:=.var 29
def V30:Opd:=.var 30
def V31:Opd:=.var 31
def V32:Opd:=.var 32
def V33:Opd:=.var 33
def V34:Opd:=.var 34
def V35:Opd:=.var 35
def V36:Opd:=.var 36
def _root_.Am.AOp.t (n:Nat) (k:AK):AOp:=⟨some (n,true),k⟩
def _root_.Am.AOp.f (n:Nat) (k:AK):AOp:=⟨some (n,false),k⟩
def ld (x:Opd):AOp:=⟨none,.load false 1 x⟩
def la (n:Nat) (x:Opd):AOp:=⟨none,.load true n x⟩
def fa (n:Nat) (x:Opd):AOp:=⟨none,.fadr n x⟩
def nk (x:Opd):AOp:=⟨none,.nilck x⟩
def bp (o:BinOp) (x y:Opd):AOp:=⟨none,.bin o .plain x y⟩
def mI (n:Nat):AOp:=⟨none,.mv (cI n)⟩
def mF:AOp:=⟨none,.mv (.cst (.bool false))⟩
def mT:AOp:=⟨none,.mv (.cst (.bool true))⟩
def pT (x y:Opd):AOp:=⟨none,.pick x (.cst (.bool true)) y⟩
def pF (x y:Opd):AOp:=⟨none,.pick x y (.cst (.bool false))⟩
def ln (x:Opd):AOp:=⟨none,.len .slice x⟩
def ex (n:Nat) (x:Opd):AOp:=⟨none,.ext n x⟩
def st (n:Nat) (x y:Opd):AOp:=⟨none,.store n x y⟩
def ca (n:Nat) (l:List Opd):AOp:=⟨none,.call n l⟩
def N0:V:=nI 0
def S0:V:=.str []
def B0:V:=.str [115,116,114,105,110,103,115,58,32,74,111,105,110,32,111,117,116,112,117,116,32,108,101,110,103,116,104,32,111,118,101,114,102,108,111,119]
def B1:V:=.str [48,49,50,51,52,53,54,55,56,57,97,98,99,100,101,102,103,104,105,106,107,108,109,110,111,112,113,114,115,116,117,118,119,120,121,122]
def B2:V:=.str [48,48,48,49,48,50,48,51,48,52,48,53,48,54,48,55,48,56,48,57,49,48,49,49,49,50,49,51,49,52,49,53,49,54,49,55,49,56,49,57,50,48,50,49,50,50,50,51,50,52,50,53,50,54,50,55,50,56,50,57,51,48,51,49,51,50,51,51,51,52,51,53,51,54,51,55,51,56,51,57,52,48,52,49,52,50,52,51,52,52,52,53,52,54,52,55,52,56,52,57,53,48,53,49,53,50,53,51,53,52,53,53,53,54,53,55,53,56,53,57,54,48,54,49,54,50,54,51,54,52,54,53,54,54,54,55,54,56,54,57,55,48,55,49,55,50,55,51,55,52,55,53,55,54,55,55,55,56,55,57,56,48,56,49,56,50,56,51,56,52,56,53,56,54,56,55,56,56,56,57,57,48,57,49,57,50,57,51,57,52,57,53,57,54,57,55,57,56,57,57]
def B3:V:=.str [48,49,50,51,52,53,54,55,56,57,97,98,99,100,101,102]
noncomputable def ep (f:Func):AFunc:=(prep Tryz.prog (glob fun _=>none) f).getD default
end AmT
