/-
  An abstract machine for Go programs, sound for the model: part C. Conditions: none beyond those that each theorem states.
-/
import Derived.ChangeSame
import Derived.RowKit
import Derived.Lib.LaidTab
import Derived.ChangeReads
import Derived.ReadAgain
import Derived.Test.YtaldgnccoopepaaGreatDoorAmB
/-
  A run with a script: some calls are answered by a list of answers, one behind the other, and logged; whatever holds of the logged calls makes the run one of the plain evaluator.
-/
namespace Am
open Go

/-- An answer of the script: a call's, an operation's. -/
inductive SI where
  | ans (f : Nat) (v : V)
  | val (v : V)

/-- What was answered so. -/
inductive LE where
  | call (f : Nat) (args : List V) (v : V)
  | bin (op : BinOp) (q : EqK) (x y v : V)

def LE.ok (P : CallF) : LE → Prop
  | .call f args v => ∀ h, P f args h = some (v, h)
  | .bin op q x y v => binV op q x y = some v

structure Sc where
  script : List SI
  log : List LE

abbrev CallL := Nat → List V → Heap → Sc → Option (V × Heap × Sc)
abbrev ResL := Option (V × Heap × Sc)
abbrev OutL := Option (Ex × List V × Heap × Sc)

def l_call (call : CallL) (f : Nat) (args : List Opd) (ls vs : List V) (h : Heap) (s : Sc) : ResL :=
  match evs ls vs args with
  | some as => call f as h s
  | none => none

def l_callv (call : CallL) (f : Opd) (args : List Opd) (ls vs : List V) (h : Heap) (s : Sc) : ResL :=
  match ev ls vs f, evs ls vs args with
  | some (.fn f first caps), some as => call f (first ++ as ++ caps) h s
  | _, _ => none

def l_opv (k : AK) (ls vs : List V) (h : Heap) (s : Sc) : ResL :=
  match opv k ls vs h with
  | some (v, h') => some (v, h', s)
  | none => none

def l_bin (b : BinOp → Bool) (op : BinOp) (q : EqK) (x y : Opd) (ls vs : List V) (h : Heap) (s : Sc) : ResL :=
  match b op with
  | true => match ev ls vs x, ev ls vs y with
    | some x, some y => match s.script with
      | .val v :: r => some (v, h, ⟨r, .bin op q x y v :: s.log⟩)
      | _ => none
    | _, _ => none
  | false => l_opv (.bin op q x y) ls vs h s

def lopc (b : BinOp → Bool) (call : CallL) : AK → List V → List V → Heap → Sc → ResL
  | .call f args => l_call call f args
  | .callv f args => l_callv call f args
  | .bin op q x y => l_bin b op q x y
  | k => l_opv k

def lstepO (b : BinOp → Bool) (call : CallL) (o : AOp) (ls vs : List V) (h : Heap) (s : Sc) : ResL :=
  match wantedV ls o.g with
  | none => none
  | some false => some (.tuple [], h, s)
  | some true => lopc b call o.k ls vs h s

def lrunOps (b : BinOp → Bool) (call : CallL) : List AOp → List V → List V → Heap → Sc → Option (List V × Heap × Sc)
  | [], ls, _, h, s => some (ls, h, s)
  | o :: os, ls, vs, h, s =>
    match lstepO b call o ls vs h s with
    | some (v, h', s') => lrunOps b call os (v :: ls) vs h' s'
    | none => none

def liter (f : List V → Heap → Sc → OutL) : Nat → List V → Heap → Sc → OutL
  | 0, _, _, _ => none
  | n + 1, vs, h, s => match f vs h s with
    | some (.normal, vs', h', s') => liter f n vs' h' s'
    | some (.exit i, vs', h', s') => some (.exit i, vs', h', s')
    | some (.ret, vs', h', s') => some (.ret, vs', h', s')
    | none => none

def lx_reg (b : BinOp → Bool) (call : CallL) (ops : List AOp) (outs : List (Nat × Nat)) (vs : List V) (h : Heap) (s : Sc) : OutL :=
  match lrunOps b call ops [] vs h s with
  | some (ls, h', s') => match outsV ls outs vs with
    | some vs' => some (.normal, vs', h', s')
    | none => none
  | none => none

def lx_reg2 (b : BinOp → Bool) (call : CallL) (ops : List AOp) (s1 s2 : AOp) (outs : List (Nat × Nat)) (vs : List V) (h : Heap) (s : Sc) : OutL :=
  match lrunOps b call ops [] vs h s with
  | some (ls, h', s') => match target ls vs s1, target ls vs s2 with
    | some a, some b => match Nat.beq a b with
      | true => none
      | false => match opv s1.k ls vs h' with
        | some (_, h1) => match opv s2.k ls vs h1 with
          | some (_, h2) => match outsV ls outs vs with
            | some vs' => some (.normal, vs', h2, s')
            | none => none
          | none => none
        | none => none
    | _, _ => none
  | none => none

def lx_seq (a b : List V → Heap → Sc → OutL) (vs : List V) (h : Heap) (s : Sc) : OutL :=
  match a vs h s with
  | some (.normal, vs', h', s') => b vs' h' s'
  | some (.exit i, vs', h', s') => some (.exit i, vs', h', s')
  | some (.ret, vs', h', s') => some (.ret, vs', h', s')
  | none => none

def lx_cond (c : Opd) (a b : List V → Heap → Sc → OutL) (vs : List V) (h : Heap) (s : Sc) : OutL :=
  match ev [] vs c with
  | some (.bool true) => a vs h s
  | some (.bool false) => b vs h s
  | _ => none

def lx_block (id : Nat) (b : List V → Heap → Sc → OutL) (vs : List V) (h : Heap) (s : Sc) : OutL :=
  match b vs h s with
  | some (.exit i, vs', h', s') => match Nat.beq i id with
    | true => some (.normal, vs', h', s')
    | false => some (.exit i, vs', h', s')
  | r => r

def lx_coin (s : Nat) (a : AC) (vs : List V) (h : Heap) (sc : Sc) : OutL :=
  match x_coin s a vs h with
  | some (e, vs', h') => some (e, vs', h', sc)
  | none => none

def lexec (c : BinOp → Bool) (call : CallL) (fuel : Nat) : AC → List V → Heap → Sc → OutL
  | .skip => fun vs h s => some (.normal, vs, h, s)
  | .reg ops outs => lx_reg c call ops outs
  | .reg2 ops s1 s2 outs => lx_reg2 c call ops s1 s2 outs
  | .seq a b => lx_seq (lexec c call fuel a) (lexec c call fuel b)
  | .cond d a b => lx_cond d (lexec c call fuel a) (lexec c call fuel b)
  | .coin s a => lx_coin s a
  | .block id b => lx_block id (lexec c call fuel b)
  | .loop b => liter (lexec c call fuel b) fuel
  | .exit id => fun vs h s => some (.exit id, vs, h, s)
  | .ret => fun vs h s => some (.ret, vs, h, s)
  | .stuck => fun _ _ _ => none

def lbody (c : BinOp → Bool) (call : CallL) (fuel : Nat) (a : AFunc) (args : List V) (h : Heap) (s : Sc) : ResL :=
  match Nat.beq args.length a.nparams with
  | false => none
  | true => match lexec c call fuel a.code (initV a.slots args) h s with
    | some (.exit _, _, _, _) => none
    | some (_, vs, h', s') => match resV vs h' a.res with
      | some l => some (packV l, h', s')
      | none => none
    | none => none

/-- As 'run'; calls of the functions 'A', and operations 'B' of a function, are answered by the script. -/
def runL (T : Nat → Option AFunc) (A : Nat → Bool) (B : Nat → BinOp → Bool) (O : CallF) : Nat → CallL
  | 0, _, _, _, _ => none
  | n + 1, f, args, h, s =>
    match A f with
    | true => match s.script with
      | .ans g v :: r => match Nat.beq g f with
        | true => some (v, h, ⟨r, .call f args v :: s.log⟩)
        | false => none
      | _ => none
    | false => match O f args h with
      | some (v, h') => some (v, h', s)
      | none => match T f with
        | some a => lbody (B f) (runL T A B O n) n a args h s
        | none => none

/-- Either's answers, the first one's ahead. -/
def orO (P O : CallF) : CallF := fun f args h => match P f args h with
  | some r => some r
  | none => O f args h

theorem orO_ok {C : Ctx} {P O : CallF} (hP : CallOk C P) (hO : CallOk C O) : CallOk C (orO P O) := by
  intro f args H v H' h
  unfold orO at h
  split at h
  · rename_i r hr
    rw [h] at hr
    exact hP _ _ _ _ _ hr
  · exact hO _ _ _ _ _ h

def Ext (s s' : Sc) : Prop := ∃ l, s'.log = l ++ s.log
def Valid (P : CallF) (s : Sc) : Prop := ∀ e ∈ s.log, e.ok P

theorem Ext.refl (s : Sc) : Ext s s := ⟨[], rfl⟩
theorem Ext.trans {a b c : Sc} (h : Ext a b) (k : Ext b c) : Ext a c := by
  obtain ⟨l, hl⟩ := h
  obtain ⟨m, hm⟩ := k
  exact ⟨m ++ l, by rw [hm, hl, List.append_assoc]⟩
theorem Valid.back {P : CallF} {s s' : Sc} (h : Ext s s') (hv : Valid P s') : Valid P s := by
  obtain ⟨l, hl⟩ := h
  intro e he
  exact hv e (by rw [hl]; exact List.mem_append_right _ he)

variable {P : CallF} {callL : CallL} {call : CallF}

def SimC (P : CallF) (callL : CallL) (call : CallF) : Prop :=
  ∀ f as h s v h' s', callL f as h s = some (v, h', s') → Ext s s' ∧ (Valid P s' → call f as h = some (v, h'))
def SimX (P : CallF) (xL : List V → Heap → Sc → OutL) (x : List V → Heap → Out) : Prop :=
  ∀ vs h s e vs' h' s', xL vs h s = some (e, vs', h', s') → Ext s s' ∧ (Valid P s' → x vs h = some (e, vs', h'))

theorem sim_opv {k : AK} {ls vs : List V} {h h' : Heap} {s s' : Sc} {v : V} (e : l_opv k ls vs h s = some (v, h', s')) : Ext s s' ∧ (Valid P s' → opv k ls vs h = some (v, h')) := by
  unfold l_opv at e
  split at e
  · rename_i v1 h1 h2
    simp only [Option.some.injEq, Prod.mk.injEq] at e
    obtain ⟨rfl, rfl, rfl⟩ := e
    exact ⟨.refl _, fun _ => h2⟩
  · cases e

theorem sim_opc (b : BinOp → Bool) (hc : SimC P callL call) (k : AK) (ls vs : List V) (h : Heap) (s : Sc) (v : V) (h' : Heap) (s' : Sc) (e : lopc b callL k ls vs h s = some (v, h', s')) :
    Ext s s' ∧ (Valid P s' → opc call k ls vs h = some (v, h')) := by
  cases k with
  | call f args =>
    have e : l_call callL f args ls vs h s = some (v, h', s') := e
    show Ext s s' ∧ (Valid P s' → o_call call f args ls vs h = some (v, h'))
    unfold l_call at e
    unfold o_call
    split at e
    · rename_i as h1
      simp only [h1]
      exact hc _ _ _ _ _ _ _ e
    · cases e
  | callv f args =>
    have e : l_callv callL f args ls vs h s = some (v, h', s') := e
    show Ext s s' ∧ (Valid P s' → o_callv call f args ls vs h = some (v, h'))
    unfold l_callv at e
    unfold o_callv
    split at e
    · rename_i h1 h2
      simp only [h1, h2]
      exact hc _ _ _ _ _ _ _ e
    · cases e
  | bin op q x y =>
    have e : l_bin b op q x y ls vs h s = some (v, h', s') := e
    show Ext s s' ∧ (Valid P s' → o_bin op q x y ls vs h = some (v, h'))
    unfold l_bin at e
    split at e
    · split at e
      · rename_i x1 y1 h1 h2
        split at e
        · rename_i c r hr
          simp only [Option.some.injEq, Prod.mk.injEq] at e
          obtain ⟨rfl, rfl, rfl⟩ := e
          refine ⟨⟨[.bin op q x1 y1 c], rfl⟩, fun hv => ?_⟩
          have := hv (.bin op q x1 y1 c) (List.mem_cons_self ..)
          simp only [LE.ok] at this
          simp only [o_bin, h1, h2, binK_eq, this, keep]
        · cases e
      · cases e
    · exact sim_opv e
  | alloc z =>
    have e : l_opv (.alloc z) ls vs h s = some (v, h', s') := e
    exact sim_opv e
  | mkM =>
    have e : l_opv .mkM ls vs h s = some (v, h', s') := e
    exact sim_opv e
  | next it =>
    have e : l_opv (.next it) ls vs h s = some (v, h', s') := e
    exact sim_opv e
  | die =>
    have e : l_opv .die ls vs h s = some (v, h', s') := e
    exact sim_opv e
  | _ => exact sim_opv e

theorem sim_step (b : BinOp → Bool) (hc : SimC P callL call) (o : AOp) (ls vs : List V) (h : Heap) (s : Sc) (v : V) (h' : Heap) (s' : Sc) (e : lstepO b callL o ls vs h s = some (v, h', s')) :
    Ext s s' ∧ (Valid P s' → stepO call o ls vs h = some (v, h')) := by
  unfold lstepO at e
  unfold stepO
  split at e
  · cases e
  · rename_i hw
    simp only [Option.some.injEq, Prod.mk.injEq] at e
    obtain ⟨rfl, rfl, rfl⟩ := e
    exact ⟨.refl _, fun _ => by simp only [hw]⟩
  · rename_i hw
    simp only [hw]
    exact sim_opc b hc _ _ _ _ _ _ _ _ e

theorem sim_ops (b : BinOp → Bool) (hc : SimC P callL call) : ∀ (os : List AOp) (ls vs : List V) (h : Heap) (s : Sc) (ls' : List V) (h' : Heap) (s' : Sc), lrunOps b callL os ls vs h s = some (ls', h', s') →
    Ext s s' ∧ (Valid P s' → runOps call os ls vs h = some (ls', h'))
  | [], ls, vs, h, s, ls', h', s', e => by
    simp only [lrunOps, Option.some.injEq, Prod.mk.injEq] at e
    obtain ⟨rfl, rfl, rfl⟩ := e
    exact ⟨.refl _, fun _ => rfl⟩
  | o :: os, ls, vs, h, s, ls', h', s', e => by
    unfold lrunOps at e
    unfold runOps
    split at e
    · rename_i v h1 s1 h2
      obtain ⟨k1, k2⟩ := sim_step b hc o ls vs h s v h1 s1 h2
      obtain ⟨k3, k4⟩ := sim_ops b hc os (v :: ls) vs h1 s1 ls' h' s' e
      refine ⟨k1.trans k3, fun hv => ?_⟩
      rw [k2 (hv.back k3)]
      exact k4 hv
    · cases e

theorem sim_reg (c : BinOp → Bool) (hc : SimC P callL call) (ops : List AOp) (outs : List (Nat × Nat)) : SimX P (lx_reg c callL ops outs) (x_reg call ops outs) := by
  intro vs h s e vs' h' s' he
  unfold lx_reg at he
  split at he
  · rename_i ls h1 s1 h2
    obtain ⟨k1, k2⟩ := sim_ops c hc ops [] vs h s ls h1 s1 h2
    split at he
    · rename_i vs1 h3
      simp only [Option.some.injEq, Prod.mk.injEq] at he
      obtain ⟨rfl, rfl, rfl, rfl⟩ := he
      refine ⟨k1, fun hv => ?_⟩
      unfold x_reg
      rw [k2 hv]
      simp only [h3]
    · cases he
  · cases he

theorem sim_reg2 (c : BinOp → Bool) (hc : SimC P callL call) (ops : List AOp) (a b : AOp) (outs : List (Nat × Nat)) : SimX P (lx_reg2 c callL ops a b outs) (x_reg2 call ops a b outs) := by
  intro vs h s e vs' h' s' he
  unfold lx_reg2 at he
  split at he
  · rename_i ls h1 s1 h2
    obtain ⟨k1, k2⟩ := sim_ops c hc ops [] vs h s ls h1 s1 h2
    split at he
    · rename_i ta tb h3 h4
      split at he
      · cases he
      · rename_i h5
        split at he
        · rename_i v6 h6 h7
          split at he
          · rename_i v8 h8 h9
            split at he
            · rename_i vs1 h10
              simp only [Option.some.injEq, Prod.mk.injEq] at he
              obtain ⟨rfl, rfl, rfl, rfl⟩ := he
              refine ⟨k1, fun hv => ?_⟩
              unfold x_reg2
              rw [k2 hv]
              simp only [h3, h4, h5, h7, h9, h10]
            · cases he
          · cases he
        · cases he
    · cases he
  · cases he

theorem sim_seq {aL bL : List V → Heap → Sc → OutL} {a b : List V → Heap → Out} (ha : SimX P aL a) (hb : SimX P bL b) : SimX P (lx_seq aL bL) (x_seq a b) := by
  intro vs h s e vs' h' s' he
  unfold lx_seq at he
  unfold x_seq
  split at he
  · rename_i vs1 h1 s1 h2
    obtain ⟨k1, k2⟩ := ha _ _ _ _ _ _ _ h2
    obtain ⟨k3, k4⟩ := hb _ _ _ _ _ _ _ he
    refine ⟨k1.trans k3, fun hv => ?_⟩
    rw [k2 (hv.back k3)]
    exact k4 hv
  · rename_i h2
    simp only [Option.some.injEq, Prod.mk.injEq] at he
    obtain ⟨rfl, rfl, rfl, rfl⟩ := he
    obtain ⟨k1, k2⟩ := ha _ _ _ _ _ _ _ h2
    exact ⟨k1, fun hv => by rw [k2 hv]⟩
  · rename_i h2
    simp only [Option.some.injEq, Prod.mk.injEq] at he
    obtain ⟨rfl, rfl, rfl, rfl⟩ := he
    obtain ⟨k1, k2⟩ := ha _ _ _ _ _ _ _ h2
    exact ⟨k1, fun hv => by rw [k2 hv]⟩
  · cases he

theorem sim_cond (c : Opd) {aL bL : List V → Heap → Sc → OutL} {a b : List V → Heap → Out} (ha : SimX P aL a) (hb : SimX P bL b) : SimX P (lx_cond c aL bL) (x_cond c a b) := by
  intro vs h s e vs' h' s' he
  unfold lx_cond at he
  unfold x_cond
  split at he
  · rename_i h1
    rw [h1]
    exact ha _ _ _ _ _ _ _ he
  · rename_i h1
    rw [h1]
    exact hb _ _ _ _ _ _ _ he
  · cases he

theorem sim_block (id : Nat) {bL : List V → Heap → Sc → OutL} {b : List V → Heap → Out} (hb : SimX P bL b) : SimX P (lx_block id bL) (x_block id b) := by
  intro vs h s e vs' h' s' he
  unfold lx_block at he
  unfold x_block
  split at he
  · rename_i i vs1 h1 s1 h2
    obtain ⟨k1, k2⟩ := hb _ _ _ _ _ _ _ h2
    split at he
    · rename_i h3
      simp only [Option.some.injEq, Prod.mk.injEq] at he
      obtain ⟨rfl, rfl, rfl, rfl⟩ := he
      exact ⟨k1, fun hv => by rw [k2 hv]; simp only [h3]⟩
    · rename_i h3
      simp only [Option.some.injEq, Prod.mk.injEq] at he
      obtain ⟨rfl, rfl, rfl, rfl⟩ := he
      exact ⟨k1, fun hv => by rw [k2 hv]; simp only [h3]⟩
  · rename_i h2
    obtain ⟨k1, k2⟩ := hb _ _ _ _ _ _ _ he
    refine ⟨k1, fun hv => ?_⟩
    rw [k2 hv]
    cases e with
    | exit i => exact absurd he (h2 _ _ _ _)
    | normal => rfl
    | ret => rfl

theorem sim_iter {fL : List V → Heap → Sc → OutL} {f : List V → Heap → Out} (hf : SimX P fL f) : ∀ n, SimX P (liter fL n) (iter f n)
  | 0 => by
    intro vs h s e vs' h' s' he
    simp [liter] at he
  | n + 1 => by
    intro vs h s e vs' h' s' he
    unfold liter at he
    unfold iter
    split at he
    · rename_i vs1 h1 s1 h2
      obtain ⟨k1, k2⟩ := hf _ _ _ _ _ _ _ h2
      obtain ⟨k3, k4⟩ := sim_iter hf n _ _ _ _ _ _ _ he
      refine ⟨k1.trans k3, fun hv => ?_⟩
      rw [k2 (hv.back k3)]
      exact k4 hv
    · rename_i h2
      simp only [Option.some.injEq, Prod.mk.injEq] at he
      obtain ⟨rfl, rfl, rfl, rfl⟩ := he
      obtain ⟨k1, k2⟩ := hf _ _ _ _ _ _ _ h2
      exact ⟨k1, fun hv => by rw [k2 hv]⟩
    · rename_i h2
      simp only [Option.some.injEq, Prod.mk.injEq] at he
      obtain ⟨rfl, rfl, rfl, rfl⟩ := he
      obtain ⟨k1, k2⟩ := hf _ _ _ _ _ _ _ h2
      exact ⟨k1, fun hv => by rw [k2 hv]⟩
    · cases he

theorem sim_exec (z : BinOp → Bool) (hc : SimC P callL call) (fuel : Nat) : ∀ c, SimX P (lexec z callL fuel c) (exec call fuel c)
  | .skip => by
    intro vs h s e vs' h' s' he
    simp only [lexec, Option.some.injEq, Prod.mk.injEq] at he
    obtain ⟨rfl, rfl, rfl, rfl⟩ := he
    exact ⟨.refl _, fun _ => rfl⟩
  | .reg ops outs => sim_reg z hc ops outs
  | .reg2 ops a b outs => sim_reg2 z hc ops a b outs
  | .seq a b => sim_seq (sim_exec z hc fuel a) (sim_exec z hc fuel b)
  | .cond c a b => sim_cond c (sim_exec z hc fuel a) (sim_exec z hc fuel b)
  | .coin s a => by
    intro vs h sc e vs' h' s' he
    simp only [lexec, lx_coin] at he
    split at he
    · rename_i hx
      simp only [Option.some.injEq, Prod.mk.injEq] at he
      obtain ⟨rfl, rfl, rfl, rfl⟩ := he
      exact ⟨.refl _, fun _ => by simp only [exec, hx]⟩
    · cases he
  | .block id b => sim_block id (sim_exec z hc fuel b)
  | .loop b => sim_iter (sim_exec z hc fuel b) fuel
  | .exit id => by
    intro vs h s e vs' h' s' he
    simp only [lexec, Option.some.injEq, Prod.mk.injEq] at he
    obtain ⟨rfl, rfl, rfl, rfl⟩ := he
    exact ⟨.refl _, fun _ => rfl⟩
  | .ret => by
    intro vs h s e vs' h' s' he
    simp only [lexec, Option.some.injEq, Prod.mk.injEq] at he
    obtain ⟨rfl, rfl, rfl, rfl⟩ := he
    exact ⟨.refl _, fun _ => rfl⟩
  | .stuck => by
    intro vs h s e vs' h' s' he
    simp [lexec] at he

theorem sim_body (z : BinOp → Bool) (hc : SimC P callL call) (fuel : Nat) (a : AFunc) (args : List V) (h : Heap) (s : Sc) (v : V) (h' : Heap) (s' : Sc) (e : lbody z callL fuel a args h s = some (v, h', s')) :
    Ext s s' ∧ (Valid P s' → body call fuel a args h = some (v, h')) := by
  unfold lbody at e
  unfold body
  split at e
  · cases e
  · rename_i h0
    rw [h0]
    simp only
    split at e
    · cases e
    · rename_i ex vs h1 s1 h2 h3
      obtain ⟨k1, k2⟩ := sim_exec z hc fuel a.code _ _ _ _ _ _ _ h3
      split at e
      · rename_i l h4
        simp only [Option.some.injEq, Prod.mk.injEq] at e
        obtain ⟨rfl, rfl, rfl⟩ := e
        refine ⟨k1, fun hv => ?_⟩
        rw [k2 hv]
        cases ex with
        | exit i => exact (h2 _ rfl).elim
        | normal => simp only [h4]
        | ret => simp only [h4]
      · cases e
    · cases e

theorem sim_run {T : Nat → Option AFunc} {A : Nat → Bool} {B : Nat → BinOp → Bool} {O : CallF} (hA : ∀ f args h, A f = false → P f args h = none) : ∀ n, SimC P (runL T A B O n) (run T (orO P O) n)
  | 0 => by
    intro f as h s v h' s' e
    simp [runL] at e
  | n + 1 => by
    intro f as h s v h' s' e
    unfold runL at e
    unfold run
    split at e
    · rename_i h1
      split at e
      · rename_i g u r h2
        split at e
        · rename_i h3
          simp only [Option.some.injEq, Prod.mk.injEq] at e
          obtain ⟨rfl, rfl, rfl⟩ := e
          refine ⟨⟨[.call f as u], rfl⟩, fun hv => ?_⟩
          have := hv (.call f as u) (List.mem_cons_self ..) h
          simp only [orO, this]
        · cases e
      · cases e
    · rename_i h1
      have hP := hA f as h h1
      simp only [orO, hP]
      split at e
      · rename_i h2
        simp only [Option.some.injEq, Prod.mk.injEq] at e
        obtain ⟨rfl, rfl, rfl⟩ := e
        exact ⟨.refl _, fun _ => by rw [h2]⟩
      · rename_i h2
        rw [h2]
        simp only
        split at e
        · rename_i a h3
          rw [h3]
          exact sim_body (B f) (sim_run hA n) _ _ _ _ _ _ _ _ e
        · cases e

/-- A run with a script, whose logged calls hold, is a run. -/
theorem runL_ok {T : Nat → Option AFunc} {A : Nat → Bool} {B : Nat → BinOp → Bool} {O : CallF} (hA : ∀ f args h, A f = false → P f args h = none) {n f : Nat} {args : List V} {h h' : Heap} {s s' : Sc} {v : V}
    (e : runL T A B O n f args h s = some (v, h', s')) (hv : Valid P s') : run T (orO P O) n f args h = some (v, h') :=
  (sim_run hA n f args h s v h' s' e).2 hv

end Am

/-
  A scripted run over the empty heap is a contract.
-/
namespace Am
open Go

/-- A scripted run's result by value, and its log. -/
def runU (T : Nat → Option AFunc) (A : Nat → Bool) (B : Nat → BinOp → Bool) (O : CallF) (n d f : Nat) (args : List V) (script : List SI) : Option (V × List LE) :=
  match runL T A B O n f args Heap.empty ⟨script, []⟩ with
  | some (v, h, s) => match flatV h d v with
    | some u => some (u, s.log)
    | none => none
  | none => none

theorem script_run {P : Program} {glob : Nat → Option V} {T : Nat → Option AFunc} {A : Nat → Bool} {B : Nat → BinOp → Bool} {O Q : CallF} (hm : P.follows .mixedOrders = true)
    (hg : ∀ g v, glob g = some v → Flat (.vptr v 0)) (hT : TableOk P glob T) (hO : CallOk ⟨P, glob⟩ O) (hQ : CallOk ⟨P, glob⟩ Q) (hA : ∀ f args h, A f = false → Q f args h = none) (n d : Nat)
    {f : Nat} {args : List V} {script : List SI} {u : V} {log : List LE} (ha : V.flatBL args = true) (e : runU T A B O n d f args script = some (u, log)) (hv : ∀ e ∈ log, e.ok Q) : Memo.ok ⟨P, glob⟩ ⟨f, args, u⟩ := by
  unfold runU at e
  split at e
  · rename_i v h s h1
    split at e
    · rename_i u' h2
      simp only [Option.some.injEq, Prod.mk.injEq] at e
      obtain ⟨rfl, rfl⟩ := e
      have h3 := runL_ok (P := Q) hA h1 hv
      have h4 := run_ok hm hT (orO_ok hQ hO) n _ _ _ _ _ h3
      exact fun H => pure_rule hg h4 (flatBL_ok _ ha) h2 H
    · cases e
  · cases e

open Classical in
/-- Answers from what is known, of any arguments. -/
noncomputable def factO : List Memo → CallF
  | [], _, _, _ => none
  | m :: l, f, args, h => if m.f = f ∧ m.args = args then some (m.res, h) else factO l f args h

theorem factO_ok {C : Ctx} {l : List Memo} (h : ∀ m ∈ l, m.ok C) : CallOk C (factO l) := by
  induction l with
  | nil => intro f args H v H' h; cases h
  | cons m l ih =>
    intro f args H v H' he
    simp only [factO] at he
    split at he
    · rename_i hc
      obtain ⟨rfl, rfl⟩ := hc
      simp only [Option.some.injEq, Prod.mk.injEq] at he
      obtain ⟨rfl, rfl⟩ := he
      exact h m (by simp) H
    · exact ih (fun m hm => h m (by simp [hm])) f args H v H' he

theorem factO_none {l : List Memo} {A : Nat → Bool} (h : ∀ m ∈ l, A m.f = true) (f : Nat) (args : List V) (H : Heap) (hf : A f = false) : factO l f args H = none := by
  induction l with
  | nil => rfl
  | cons m l ih =>
    simp only [factO]
    rw [if_neg (fun hc => by have := h m (by simp); rw [hc.1, hf] at this; cases this)]
    exact ih fun m hm => h m (by simp [hm])

end Am

/-
  The same evaluators by bare recursors: the kernel copies less. They are equal to the plain ones.
-/
namespace Am
open Go

noncomputable def opvR (k : AK) : List V → List V → Heap → Res :=
  AK.rec (motive := fun _ => List V → List V → Heap → Res)
    (fun x => o_mv x)
    (fun c a b => o_pick c a b)
    (fun zero => o_alloc zero)
    (fun size x => o_box size x)
    (fun zero parts => o_build zero parts)
    (fun n esz zero parts => o_bslice n esz zero parts)
    (fun ag n a => o_load ag n a)
    (fun n a x => o_store n a x)
    (fun x => o_nilck x)
    (fun op q x y => o_bin op q x y)
    (fun op x => o_un op x)
    (fun k x => o_toInt k x)
    (fun x => o_strId x)
    (fun x => o_toStr x)
    (fun x => o_toBytes x)
    (fun t x => o_mkI t x)
    (fun f first caps => o_mkF f first caps)
    (o_mkM)
    (fun esz bytes zero l c => o_mkS esz bytes zero l c)
    (fun x lo hi => o_slS x lo hi)
    (fun esz x lo hi mx => o_slL esz x lo hi mx)
    (fun n esz x lo hi => o_slA n esz x lo hi)
    (fun off x => o_fadr off x)
    (fun ag n off x => o_fld ag n off x)
    (fun esz x i => o_iadr esz x i)
    (fun len esz x i => o_iadrA len esz x i)
    (fun x i => o_idxS x i)
    (fun ag len esz x i => o_idxA ag len esz x i)
    (fun kk zero ok m k => o_look kk zero ok m k)
    (fun kk m k x => o_mput kk m k x)
    (fun kk m k => o_mdel kk m k)
    (fun k x => o_len k x)
    (fun x l => o_mx x l)
    (fun x l => o_mn x l)
    (fun esz s x => o_app esz s x)
    (fun esz zero s n => o_appz esz zero s n)
    (fun esz d s => o_copy esz d s)
    (fun i x => o_ext i x)
    (fun _f _args => fun _ _ _ => none)
    (fun _f _args => fun _ _ _ => none)
    (fun x => o_range x)
    (fun _u0 => fun _ _ _ => none)
    (fun t zero ok x => o_tassert t zero ok x)
    (fun i ag n a => o_chk i ag n a)
    (fun i kk zero ok m k => o_chkLook i kk zero ok m k)
    (fun i m => o_chkLen i m)
    (fun i => o_snap i)
    (fun i j => o_chkObj i j)
    (fun s c => o_xcount s c)
    (fun s c => o_xindex s c)
    (fun a b => o_xcmp a b)
    (o_die) k

noncomputable def opcR (call : CallF) (k : AK) : List V → List V → Heap → Res :=
  AK.rec (motive := fun _ => List V → List V → Heap → Res)
    (fun x => o_mv x)
    (fun c a b => o_pick c a b)
    (fun zero => o_alloc zero)
    (fun size x => o_box size x)
    (fun zero parts => o_build zero parts)
    (fun n esz zero parts => o_bslice n esz zero parts)
    (fun ag n a => o_load ag n a)
    (fun n a x => o_store n a x)
    (fun x => o_nilck x)
    (fun op q x y => o_bin op q x y)
    (fun op x => o_un op x)
    (fun k x => o_toInt k x)
    (fun x => o_strId x)
    (fun x => o_toStr x)
    (fun x => o_toBytes x)
    (fun t x => o_mkI t x)
    (fun f first caps => o_mkF f first caps)
    (o_mkM)
    (fun esz bytes zero l c => o_mkS esz bytes zero l c)
    (fun x lo hi => o_slS x lo hi)
    (fun esz x lo hi mx => o_slL esz x lo hi mx)
    (fun n esz x lo hi => o_slA n esz x lo hi)
    (fun off x => o_fadr off x)
    (fun ag n off x => o_fld ag n off x)
    (fun esz x i => o_iadr esz x i)
    (fun len esz x i => o_iadrA len esz x i)
    (fun x i => o_idxS x i)
    (fun ag len esz x i => o_idxA ag len esz x i)
    (fun kk zero ok m k => o_look kk zero ok m k)
    (fun kk m k x => o_mput kk m k x)
    (fun kk m k => o_mdel kk m k)
    (fun k x => o_len k x)
    (fun x l => o_mx x l)
    (fun x l => o_mn x l)
    (fun esz s x => o_app esz s x)
    (fun esz zero s n => o_appz esz zero s n)
    (fun esz d s => o_copy esz d s)
    (fun i x => o_ext i x)
    (fun f args => o_call call f args)
    (fun f args => o_callv call f args)
    (fun x => o_range x)
    (fun _u0 => fun _ _ _ => none)
    (fun t zero ok x => o_tassert t zero ok x)
    (fun i ag n a => o_chk i ag n a)
    (fun i kk zero ok m k => o_chkLook i kk zero ok m k)
    (fun i m => o_chkLen i m)
    (fun i => o_snap i)
    (fun i j => o_chkObj i j)
    (fun s c => o_xcount s c)
    (fun s c => o_xindex s c)
    (fun a b => o_xcmp a b)
    (o_die) k

theorem opvR_eq (k : AK) : opvR k = opv k := by cases k <;> rfl
theorem opcR_eq (call : CallF) (k : AK) : opcR call k = opc call k := by cases k <;> rfl

noncomputable def stepR (call : CallF) (o : AOp) (ls vs : List V) (h : Heap) : Res :=
  match wantedV ls o.g with
  | none => none
  | some false => some (.tuple [], h)
  | some true => opcR call o.k ls vs h

theorem stepR_eq (call : CallF) (o : AOp) (ls vs : List V) (h : Heap) : stepR call o ls vs h = stepO call o ls vs h := by
  unfold stepR stepO
  rw [opcR_eq] <;> rfl

noncomputable def runOpsR (call : CallF) (vs : List V) (l : List AOp) : List V → Heap → Option (List V × Heap) :=
  List.rec (motive := fun _ => List V → Heap → Option (List V × Heap)) (fun ls h => some (ls, h)) (fun o _ ih ls h => match stepR call o ls vs h with
    | some (v, h') => ih (v :: ls) h'
    | none => none) l

theorem runOpsR_eq (call : CallF) (vs : List V) : ∀ (l : List AOp) (ls : List V) (h : Heap), runOpsR call vs l ls h = runOps call l ls vs h
  | [], _, _ => rfl
  | o :: l, ls, h => by
    show (match stepR call o ls vs h with | some (v, h') => runOpsR call vs l (v :: ls) h' | none => none) = _
    rw [stepR_eq]
    unfold runOps
    cases stepO call o ls vs h with
    | none => rfl
    | some r =>
      obtain ⟨v, h'⟩ := r
      exact runOpsR_eq call vs l _ _

noncomputable def x_regR (call : CallF) (ops : List AOp) (outs : List (Nat × Nat)) (vs : List V) (h : Heap) : Out :=
  match runOpsR call vs ops [] h with
  | some (ls, h') => match outsV ls outs vs with
    | some vs' => some (.normal, vs', h')
    | none => none
  | none => none

theorem x_regR_eq (call : CallF) (ops : List AOp) (outs : List (Nat × Nat)) : x_regR call ops outs = x_reg call ops outs := by
  funext vs h
  unfold x_regR x_reg
  rw [runOpsR_eq] <;> rfl

noncomputable def iterR (f : List V → Heap → Out) (n : Nat) : List V → Heap → Out :=
  Nat.rec (motive := fun _ => List V → Heap → Out) (fun _ _ => none) (fun _ ih vs h => match f vs h with
  | some (.normal, vs', h') => ih vs' h'
  | some (.exit i, vs', h') => some (.exit i, vs', h')
  | some (.ret, vs', h') => some (.ret, vs', h')
  | none => none) n

theorem iterR_eq (f : List V → Heap → Out) : ∀ n, iterR f n = iter f n
  | 0 => by funext vs h; rfl
  | n + 1 => by
    funext vs h
    show (match f vs h with | some (.normal, vs', h') => iterR f n vs' h' | some (.exit i, vs', h') => some (.exit i, vs', h') | some (.ret, vs', h') => some (.ret, vs', h') | none => none) = _
    rw [iterR_eq f n]
    rfl

noncomputable def execR (call : CallF) (fuel : Nat) (c : AC) : List V → Heap → Out :=
  AC.rec (motive := fun _ => List V → Heap → Out) (fun vs h => some (.normal, vs, h)) (fun ops outs => x_regR call ops outs) (fun ops s1 s2 outs => x_reg2 call ops s1 s2 outs) (fun _ _ fa fb => x_seq fa fb) (fun c _ _ fa fb => x_cond c fa fb) (fun s a _ => x_coin s a)
    (fun id _ fb => x_block id fb) (fun _ fb => iterR fb fuel) (fun id vs h => some (.exit id, vs, h)) (fun vs h => some (.ret, vs, h)) (fun _ _ => none) c

theorem execR_eq (call : CallF) (fuel : Nat) : ∀ c, execR call fuel c = exec call fuel c
  | .skip => rfl
  | .reg ops outs => x_regR_eq call ops outs
  | .reg2 .. => rfl
  | .seq a b => by
    show x_seq (execR call fuel a) (execR call fuel b) = _
    rw [execR_eq call fuel a, execR_eq call fuel b]
    rfl
  | .cond c a b => by
    show x_cond c (execR call fuel a) (execR call fuel b) = _
    rw [execR_eq call fuel a, execR_eq call fuel b]
    rfl
  | .coin .. => rfl
  | .block id b => by
    show x_block id (execR call fuel b) = _
    rw [execR_eq call fuel b]
    rfl
  | .loop b => by
    show iterR (execR call fuel b) fuel = _
    rw [execR_eq call fuel b, iterR_eq]
    rfl
  | .exit _ => rfl
  | .ret => rfl
  | .stuck => rfl

noncomputable def bodyR (call : CallF) (fuel : Nat) (a : AFunc) (args : List V) (h : Heap) : Option (V × Heap) :=
  match Nat.beq args.length a.nparams with
  | false => none
  | true => match execR call fuel a.code (initV a.slots args) h with
    | some (.exit _, _, _) => none
    | some (_, vs, h') => match resV vs h' a.res with
      | some l => some (packV l, h')
      | none => none
    | none => none

theorem bodyR_eq (call : CallF) (fuel : Nat) (a : AFunc) (args : List V) (h : Heap) : bodyR call fuel a args h = body call fuel a args h := by
  unfold bodyR body
  rw [execR_eq] <;> rfl

noncomputable def runR (T : Nat → Option AFunc) (O : CallF) (n : Nat) : CallF :=
  Nat.rec (motive := fun _ => CallF) (fun _ _ _ => none) (fun n ih f args h => match O f args h with
    | some r => some r
    | none => match T f with
      | some a => bodyR ih n a args h
      | none => none) n

theorem runR_eq (T : Nat → Option AFunc) (O : CallF) : ∀ n, runR T O n = run T O n
  | 0 => by funext f args h; rfl
  | n + 1 => by
    funext f args h
    show (match O f args h with | some r => some r | none => match T f with | some a => bodyR (runR T O n) n a args h | none => none) = _
    rw [runR_eq T O n]
    simp only [bodyR_eq]
    rfl

/-- As 'memo_run'. -/
theorem memo_runR {P : Program} {glob : Nat → Option V} {T : Nat → Option AFunc} {O : CallF} (hm : P.follows .mixedOrders = true) (hg : ∀ g v, glob g = some v → Flat (.vptr v 0)) (hT : TableOk P glob T) (hO : CallOk ⟨P, glob⟩ O) {f : Nat} {args : List V} {u : V} (n d : Nat)
    (ha : V.flatBL args = true) (h : ((runR T O n f args Heap.empty).bind fun r => flatV r.2 d r.1) = some u) : Memo.ok ⟨P, glob⟩ ⟨f, args, u⟩ :=
  memo_run hm hg hT hO n d ha (by rw [← runR_eq]; exact h)

/-! ### With a script -/

def l_res (f : List V → List V → Heap → Res) (ls vs : List V) (h : Heap) (s : Sc) : ResL :=
  match f ls vs h with
  | some (v, h') => some (v, h', s)
  | none => none

noncomputable def l_binR (b : BinOp → Bool) (op : BinOp) (q : EqK) (x y : Opd) (ls vs : List V) (h : Heap) (s : Sc) : ResL :=
  match b op with
  | true => match ev ls vs x, ev ls vs y with
    | some x, some y => match s.script with
      | .val v :: r => some (v, h, ⟨r, .bin op q x y v :: s.log⟩)
      | _ => none
    | _, _ => none
  | false => l_res (o_bin op q x y) ls vs h s

noncomputable def lopcR (b : BinOp → Bool) (call : CallL) (k : AK) : List V → List V → Heap → Sc → ResL :=
  AK.rec (motive := fun _ => List V → List V → Heap → Sc → ResL)
    (fun x => l_res (o_mv x))
    (fun c a b => l_res (o_pick c a b))
    (fun zero => l_res (o_alloc zero))
    (fun size x => l_res (o_box size x))
    (fun zero parts => l_res (o_build zero parts))
    (fun n esz zero parts => l_res (o_bslice n esz zero parts))
    (fun ag n a => l_res (o_load ag n a))
    (fun n a x => l_res (o_store n a x))
    (fun x => l_res (o_nilck x))
    (fun op q x y => l_binR b op q x y)
    (fun op x => l_res (o_un op x))
    (fun k x => l_res (o_toInt k x))
    (fun x => l_res (o_strId x))
    (fun x => l_res (o_toStr x))
    (fun x => l_res (o_toBytes x))
    (fun t x => l_res (o_mkI t x))
    (fun f first caps => l_res (o_mkF f first caps))
    (l_res (o_mkM))
    (fun esz bytes zero l c => l_res (o_mkS esz bytes zero l c))
    (fun x lo hi => l_res (o_slS x lo hi))
    (fun esz x lo hi mx => l_res (o_slL esz x lo hi mx))
    (fun n esz x lo hi => l_res (o_slA n esz x lo hi))
    (fun off x => l_res (o_fadr off x))
    (fun ag n off x => l_res (o_fld ag n off x))
    (fun esz x i => l_res (o_iadr esz x i))
    (fun len esz x i => l_res (o_iadrA len esz x i))
    (fun x i => l_res (o_idxS x i))
    (fun ag len esz x i => l_res (o_idxA ag len esz x i))
    (fun kk zero ok m k => l_res (o_look kk zero ok m k))
    (fun kk m k x => l_res (o_mput kk m k x))
    (fun kk m k => l_res (o_mdel kk m k))
    (fun k x => l_res (o_len k x))
    (fun x l => l_res (o_mx x l))
    (fun x l => l_res (o_mn x l))
    (fun esz s x => l_res (o_app esz s x))
    (fun esz zero s n => l_res (o_appz esz zero s n))
    (fun esz d s => l_res (o_copy esz d s))
    (fun i x => l_res (o_ext i x))
    (fun f args => l_call call f args)
    (fun f args => l_callv call f args)
    (fun x => l_res (o_range x))
    (fun _u0 => l_res (fun _ _ _ => none))
    (fun t zero ok x => l_res (o_tassert t zero ok x))
    (fun i ag n a => l_res (o_chk i ag n a))
    (fun i kk zero ok m k => l_res (o_chkLook i kk zero ok m k))
    (fun i m => l_res (o_chkLen i m))
    (fun i => l_res (o_snap i))
    (fun i j => l_res (o_chkObj i j))
    (fun s c => l_res (o_xcount s c))
    (fun s c => l_res (o_xindex s c))
    (fun a b => l_res (o_xcmp a b))
    (l_res (o_die)) k

theorem lopcR_eq (b : BinOp → Bool) (call : CallL) (k : AK) : lopcR b call k = lopc b call k := by cases k <;> rfl

noncomputable def lstepR (b : BinOp → Bool) (call : CallL) (o : AOp) (ls vs : List V) (h : Heap) (s : Sc) : ResL :=
  match wantedV ls o.g with
  | none => none
  | some false => some (.tuple [], h, s)
  | some true => lopcR b call o.k ls vs h s

theorem lstepR_eq (b : BinOp → Bool) (call : CallL) (o : AOp) (ls vs : List V) (h : Heap) (s : Sc) : lstepR b call o ls vs h s = lstepO b call o ls vs h s := by
  unfold lstepR lstepO
  rw [lopcR_eq] <;> rfl

noncomputable def lrunOpsR (b : BinOp → Bool) (call : CallL) (vs : List V) (l : List AOp) : List V → Heap → Sc → Option (List V × Heap × Sc) :=
  List.rec (motive := fun _ => List V → Heap → Sc → Option (List V × Heap × Sc)) (fun ls h s => some (ls, h, s)) (fun o _ ih ls h s => match lstepR b call o ls vs h s with
    | some (v, h', s') => ih (v :: ls) h' s'
    | none => none) l

theorem lrunOpsR_eq (b : BinOp → Bool) (call : CallL) (vs : List V) : ∀ (l : List AOp) (ls : List V) (h : Heap) (s : Sc), lrunOpsR b call vs l ls h s = lrunOps b call l ls vs h s
  | [], _, _, _ => rfl
  | o :: l, ls, h, s => by
    show (match lstepR b call o ls vs h s with | some (v, h', s') => lrunOpsR b call vs l (v :: ls) h' s' | none => none) = _
    rw [lstepR_eq]
    unfold lrunOps
    cases lstepO b call o ls vs h s with
    | none => rfl
    | some r =>
      obtain ⟨v, h', s'⟩ := r
      exact lrunOpsR_eq b call vs l _ _ _

noncomputable def lx_regR (b : BinOp → Bool) (call : CallL) (ops : List AOp) (outs : List (Nat × Nat)) (vs : List V) (h : Heap) (s : Sc) : OutL :=
  match lrunOpsR b call vs ops [] h s with
  | some (ls, h', s') => match outsV ls outs vs with
    | some vs' => some (.normal, vs', h', s')
    | none => none
  | none => none

theorem lx_regR_eq (b : BinOp → Bool) (call : CallL) (ops : List AOp) (outs : List (Nat × Nat)) : lx_regR b call ops outs = lx_reg b call ops outs := by
  funext vs h s
  unfold lx_regR lx_reg
  rw [lrunOpsR_eq] <;> rfl

noncomputable def literR (f : List V → Heap → Sc → OutL) (n : Nat) : List V → Heap → Sc → OutL :=
  Nat.rec (motive := fun _ => List V → Heap → Sc → OutL) (fun _ _ _ => none) (fun _ ih vs h s => match f vs h s with
  | some (.normal, vs', h', s') => ih vs' h' s'
  | some (.exit i, vs', h', s') => some (.exit i, vs', h', s')
  | some (.ret, vs', h', s') => some (.ret, vs', h', s')
  | none => none) n

theorem literR_eq (f : List V → Heap → Sc → OutL) : ∀ n, literR f n = liter f n
  | 0 => by funext vs h s; rfl
  | n + 1 => by
    funext vs h s
    show (match f vs h s with | some (.normal, vs', h', s') => literR f n vs' h' s' | some (.exit i, vs', h', s') => some (.exit i, vs', h', s') | some (.ret, vs', h', s') => some (.ret, vs', h', s') | none => none) = _
    rw [literR_eq f n]
    rfl

noncomputable def lexecR (z : BinOp → Bool) (call : CallL) (fuel : Nat) (c : AC) : List V → Heap → Sc → OutL :=
  AC.rec (motive := fun _ => List V → Heap → Sc → OutL) (fun vs h s => some (.normal, vs, h, s)) (fun ops outs => lx_regR z call ops outs) (fun ops s1 s2 outs => lx_reg2 z call ops s1 s2 outs) (fun _ _ fa fb => lx_seq fa fb) (fun c _ _ fa fb => lx_cond c fa fb) (fun s a _ => lx_coin s a)
    (fun id _ fb => lx_block id fb) (fun _ fb => literR fb fuel) (fun id vs h s => some (.exit id, vs, h, s)) (fun vs h s => some (.ret, vs, h, s)) (fun _ _ _ => none) c

theorem lexecR_eq (z : BinOp → Bool) (call : CallL) (fuel : Nat) : ∀ c, lexecR z call fuel c = lexec z call fuel c
  | .skip => rfl
  | .reg ops outs => lx_regR_eq z call ops outs
  | .reg2 .. => rfl
  | .seq a b => by
    show lx_seq (lexecR z call fuel a) (lexecR z call fuel b) = _
    rw [lexecR_eq z call fuel a, lexecR_eq z call fuel b]
    rfl
  | .cond c a b => by
    show lx_cond c (lexecR z call fuel a) (lexecR z call fuel b) = _
    rw [lexecR_eq z call fuel a, lexecR_eq z call fuel b]
    rfl
  | .coin .. => rfl
  | .block id b => by
    show lx_block id (lexecR z call fuel b) = _
    rw [lexecR_eq z call fuel b]
    rfl
  | .loop b => by
    show literR (lexecR z call fuel b) fuel = _
    rw [lexecR_eq z call fuel b, literR_eq]
    rfl
  | .exit _ => rfl
  | .ret => rfl
  | .stuck => rfl

noncomputable def lbodyR (z : BinOp → Bool) (call : CallL) (fuel : Nat) (a : AFunc) (args : List V) (h : Heap) (s : Sc) : ResL :=
  match Nat.beq args.length a.nparams with
  | false => none
  | true => match lexecR z call fuel a.code (initV a.slots args) h s with
    | some (.exit _, _, _, _) => none
    | some (_, vs, h', s') => match resV vs h' a.res with
      | some l => some (packV l, h', s')
      | none => none
    | none => none

theorem lbodyR_eq (z : BinOp → Bool) (call : CallL) (fuel : Nat) (a : AFunc) (args : List V) (h : Heap) (s : Sc) : lbodyR z call fuel a args h s = lbody z call fuel a args h s := by
  unfold lbodyR lbody
  rw [lexecR_eq] <;> rfl

noncomputable def runLR (T : Nat → Option AFunc) (A : Nat → Bool) (B : Nat → BinOp → Bool) (O : CallF) (n : Nat) : CallL :=
  Nat.rec (motive := fun _ => CallL) (fun _ _ _ _ => none) (fun n ih f args h s => match A f with
    | true => match s.script with
      | .ans g v :: r => match Nat.beq g f with
        | true => some (v, h, ⟨r, .call f args v :: s.log⟩)
        | false => none
      | _ => none
    | false => match O f args h with
      | some (v, h') => some (v, h', s)
      | none => match T f with
        | some a => lbodyR (B f) ih n a args h s
        | none => none) n

theorem runLR_eq (T : Nat → Option AFunc) (A : Nat → Bool) (B : Nat → BinOp → Bool) (O : CallF) : ∀ n, runLR T A B O n = runL T A B O n
  | 0 => by funext f args h s; rfl
  | n + 1 => by
    funext f args h s
    show (match A f with
    | true => match s.script with
      | .ans g v :: r => match Nat.beq g f with
        | true => some (v, h, (⟨r, .call f args v :: s.log⟩ : Sc))
        | false => none
      | _ => none
    | false => match O f args h with
      | some (v, h') => some (v, h', s)
      | none => match T f with
        | some a => lbodyR (B f) (runLR T A B O n) n a args h s
        | none => none) = _
    rw [runLR_eq T A B O n]
    simp only [lbodyR_eq]
    rfl

noncomputable def runUR (T : Nat → Option AFunc) (A : Nat → Bool) (B : Nat → BinOp → Bool) (O : CallF) (n d f : Nat) (args : List V) (script : List SI) : Option (V × List LE) :=
  match runLR T A B O n f args Heap.empty ⟨script, []⟩ with
  | some (v, h, s) => match flatV h d v with
    | some u => some (u, s.log)
    | none => none
  | none => none

/-- As 'script_run'. -/
theorem script_runR {P : Program} {glob : Nat → Option V} {T : Nat → Option AFunc} {A : Nat → Bool} {B : Nat → BinOp → Bool} {O Q : CallF} (hm : P.follows .mixedOrders = true)
    (hg : ∀ g v, glob g = some v → Flat (.vptr v 0)) (hT : TableOk P glob T) (hO : CallOk ⟨P, glob⟩ O) (hQ : CallOk ⟨P, glob⟩ Q) (hA : ∀ f args h, A f = false → Q f args h = none) (n d : Nat)
    {f : Nat} {args : List V} {script : List SI} {u : V} {log : List LE} (ha : V.flatBL args = true) (e : runUR T A B O n d f args script = some (u, log)) (hv : ∀ e ∈ log, e.ok Q) : Memo.ok ⟨P, glob⟩ ⟨f, args, u⟩ := by
  refine script_run hm hg hT hO hQ hA n d ha (B := B) (script := script) (log := log) ?_ hv
  rw [← e]
  unfold runU runUR
  rw [runLR_eq] <;> rfl

end Am

/-
  From a run of the abstract machine to the close of a statement.
-/
namespace Am
open Go Go.ChangeShapes Go.WideShapes

/-- Of what was there nothing has turned. -/
structure Still (W W' : World) : Prop where
  size : W.heap.size ≤ W'.heap.size
  heap : ∀ b, b < W.heap.size → W'.heap[b]? = W.heap[b]?
  os : W'.os = W.os
  output : W'.output = W.output

theorem Good.still {n : Nat} {E E' : Env} {w w' : World} (h : Good n E w E' w') (hE : ∀ id ver, E.mu id ver = none) : Still w w' :=
  ⟨h.size, fun b hb => (h.frame b hb (owns_none hE b)).1, h.os, h.output⟩

theorem Still.kept {W W' : World} (h : Still W W') (may : MemPlace → Prop) : W.keptBut W' may := by
  refine ⟨h.os, h.output, fun i hi => ?_⟩
  rw [h.heap i hi]
  cases W.heap[i]? with
  | none => rfl
  | some o =>
    cases o with
    | cells c t fr => exact ⟨rfl, rfl, rfl, fun _ _ => rfl⟩
    | map es clock => exact Or.inr ⟨rfl, rfl⟩
    | _ => rfl

theorem Still.frozen {W W' : World} (h : Still W W') {a : Addr} (ha : a.block < W.heap.size) : W'.frozen? a = W.frozen? a := by
  unfold World.frozen?
  rw [h.heap _ ha]

theorem post_of_still {Hd : Type} {enc : TypeId × Value → Hd} {P : Program} {f : Func} {s : ChangeSpec} {apart fresh handsOn again : Bool} {W W' : World} {args : Array Value} {v : Value} {ds gs : List (DataW Hd)} {before pa pv : List MemPlace}
    (hW : DataW.Whole enc P f.params.toList s.vars apart W args.toList ds gs before)
    (hres : ∀ (b : Nat) (sp : Nat → Bool) (hd : Bool), DataW.TrodAll enc P W' b sp hd f.resultTypes.toList (v.resultList f.resultTypes.size) (s.fn Hd (ds ++ gs)).results [])
    (hargs : ∀ sp : Nat → Bool, (∀ p ∈ before, sp p.block = true) → DataW.TrodAll enc P W' 0 sp true f.params.toList args.toList (s.fn Hd (ds ++ gs)).args pa)
    (hvars : ∀ sp : Nat → Bool, (∀ p ∈ before, sp p.block = true) → DataW.TrodVars enc P W' sp s.vars (s.fn Hd (ds ++ gs)).vars pv)
    (hps : before = pa ++ pv) (hst : Still W W')
    (hok : ∀ (j : Nat) (t : TypeId) (r : Value), f.resultTypes[j]? = some t → (v.resultList f.resultTypes.size)[j]? = some r → Value.okWide P W' .any 0 t r) :
    s.post enc P f apart fresh handsOn again W args v W' := by
  have hlt : ∀ p ∈ before, p.block < W.heap.size := fun p hp => hW.lt p hp
  have hold : ∀ p ∈ before, (fun b => decide (b < W.heap.size)) p.block = true := fun p hp => by simpa using hW.lt p hp
  refine ⟨ds, gs, before, [], pa, pv, hW, hres _ _ _, hargs _ hold, hvars _ hold, World.keptBut_mono (fun p hp => ⟨hp, ?_⟩) (hst.kept (· ∈ before)), fun _ => ?_⟩
  · rw [hps, List.mem_append] at hp
    exact Or.inr hp
  · obtain ⟨_, _, _, _, _, hz, hn⟩ := hW
    refine ⟨hok, _, _, ([] ++ pa) ++ pv, ⟨[] ++ pa, pv, trodAll_append (hargs _ (fun _ _ => rfl)) (hres _ _ _), hvars _ (fun _ _ => rfl), rfl, ?_, ?_⟩, ?_⟩
    · intro b off hp
      have hp' : MemPlace.cell b off ∈ before := by rw [hps]; simpa using hp
      rw [hst.frozen (a := ⟨b, off, none⟩) (hlt _ hp')]
      exact hz b off hp'
    · intro ha
      have := hn ha
      rw [hps] at this
      simpa using this
    · intro p hp _
      rw [hps]
      simpa using hp

/-- All memory, as it stands. -/
noncomputable def allIm (W : World) : Nat → Option (Array Value) := fun b =>
  match W.heap[b]? with
  | some (.cells c _ _) => some c
  | _ => none

/-- No objects yet, and all memory stays as it is. -/
noncomputable abbrev E0 (W : World) (t : Nat → Option Value) : Env := ⟨fun _ _ => none, allIm W, t⟩

theorem allIm_some {W : World} {b : Nat} {c : Array Value} (h : allIm W b = some c) : ∃ t fr, W.heap[b]? = some (.cells c t fr) := by
  unfold allIm at h
  split at h
  · rename_i c' t fr hb
    simp only [Option.some.injEq] at h; subst h
    exact ⟨t, fr, hb⟩
  · cases h

theorem allIm_mk {W : World} {b : Nat} {c : Array Value} {t : TypeId} {fr : Nat × Nat} (h : W.heap[b]? = some (.cells c t fr)) : allIm W b = some c := by
  unfold allIm; rw [h]

theorem start_R {C : Ctx} {W : World} {t : Nat → Option Value} (hg : ∀ g v, C.glob g = some v → GlR (E0 W t) g v) : R C (E0 W t) Heap.empty W :=
  ⟨(fun _ _ _ h => by cases h), (fun _ _ _ h => by cases h), (fun _ _ _ _ _ _ h => by cases h), (fun _ _ h => allIm_some h), (fun _ _ _ h => by cases h), hg, (fun id _ => by cases id <;> rfl)⟩

/-- A table of the library's. -/
theorem glob_tab {P : Program} {W : World} {t : Nat → Option Value} {name : String} {k : IntKind} {zs : List Int} {g : Nat} (hn : P.globalNamed name = some g) (h : Go.Lib.TabIs P W name k zs) :
    VR (E0 W t) (.vptr (.agg (zs.map fun z => .int k z)) 0) (.pointer (some ⟨g, 0, none⟩)) := by
  unfold Go.Lib.TabIs World.var? at h
  rw [hn] at h
  simp only [Option.bind_some] at h
  split at h
  · rename_i cs ty fr hb
    simp only [Option.some.injEq] at h; subst h
    have := VR.vptr (E := E0 W t) (v := .agg (zs.map fun z => .int k z)) (off := 0) (b := g) (o := 0) (allIm_mk hb) (by simp [V.cells]) (fun i c x hc hx => by
      simp only [V.cells, List.getElem?_map, Option.map_eq_some_iff] at hc
      obtain ⟨z, hz, rfl⟩ := hc
      simp [hz] at hx
      subst hx
      exact .int k z)
    simpa using this
  · cases h

theorem law_calls {C : Ctx} {f : Nat} {args : List V} {H' : Heap} (h : CallsTo C f args Heap.empty (.bool true) H') {xs : Array Value} {W : World} {t : Nat → Option Value}
    (hg : ∀ g v, C.glob g = some v → GlR (E0 W t) g v)
    (hs : xs.size = args.length) (hrel : ∀ (i : Nat) (a : V) (x : Value), args[i]? = some a → xs[i]? = some x → VR (E0 W t) a x) :
    Calls C.P f xs W fun e w' => e = .returned (.bool true) ∧ Still W w' := by
  refine (h.2.2 (E0 W t) W xs (start_R hg) hs hrel).mono ?_
  rintro e w' ⟨x, E', rfl, _, hv, hG⟩
  cases hv
  exact ⟨rfl, hG.still fun _ _ => rfl⟩

end Am

/-
  Plain data as the row reads it, by value.
-/
namespace Am
open Go

variable {Hd : Type}

mutual
/-- What was read, as the cells of an abstract value. -/
def cellsD : DataW Hd → List V
  | .lit (.bool b) => [.bool b]
  | .lit (.int k n) => [.int k n]
  | .lit (.string s) => [.str s]
  | .nil => [.nils]
  | .slice es _ => [.vec (elemsD es)]
  | .agg ps => cellsDL ps
  | _ => []
def elemsD : List (DataW Hd) → List V
  | [] => []
  | d :: l => .agg (cellsD d) :: elemsD l
def cellsDL : List (DataW Hd) → List V
  | [] => []
  | d :: l => cellsD d ++ cellsDL l
end

/-- Parts, one behind the other, from a place to the end. -/
def consecS : List (Nat × Nat) → Nat → Nat → Bool
  | [], o, n => o == n
  | (a, b) :: l, o, n => a == o && consecS l (o + b) n

/-- Is a type plain data, its parts among 'ts'? -/
def plainT (P : Program) (ts : List TypeId) (t : TypeId) : Bool :=
  match P.underlying t with
  | some .bool => P.cellsOf t == 1
  | some (.int _) => P.cellsOf t == 1
  | some .string => P.cellsOf t == 1
  | some (.slice e) => P.cellsOf t == 1 && ts.contains e && decide (0 < P.cellsOf e)
  | some (.struct fs) => fs.toList.all (fun f => ts.contains f.type) && consecS (fs.toList.map fun f => (f.offset, P.cellsOf f.type)) 0 (P.cellsOf t)
  | some (.array n e) => ts.contains e && consecS ((List.range n).map fun i => (i * P.cellsOf e, P.cellsOf e)) 0 (P.cellsOf t)
  | _ => false

def plainB (P : Program) (ts : List TypeId) : Bool := ts.all (plainT P ts)

theorem get_elemsD : ∀ (ds : List (DataW Hd)) (i : Nat) (v : V), (elemsD ds)[i]? = some v → ∃ d, ds[i]? = some d ∧ v = .agg (cellsD d)
  | [], i, v, h => by simp [elemsD] at h
  | d :: l, 0, v, h => by
    simp only [elemsD, List.getElem?_cons_zero, Option.some.injEq] at h
    exact ⟨d, rfl, h.symm⟩
  | d :: l, i + 1, v, h => by
    simp only [elemsD, List.getElem?_cons_succ] at h
    obtain ⟨d', h1, h2⟩ := get_elemsD l i v h
    exact ⟨d', by simpa using h1, h2⟩

theorem length_elemsD : ∀ (ds : List (DataW Hd)), (elemsD ds).length = ds.length
  | [] => rfl
  | d :: l => by simp [elemsD, length_elemsD l]

theorem cat_cells {E : Env} {cs : List Value} : ∀ (sp : List (Nat × Nat)) (ds : List (DataW Hd)) (o : Nat), consecS sp o cs.length = true → ds.length = sp.length →
    (∀ (i : Nat) (s : Nat × Nat) (d : DataW Hd), sp[i]? = some s → ds[i]? = some d → (cellsD d).length = s.2 ∧ ∀ (j : Nat) (c : V) (v : Value), (cellsD d)[j]? = some c → ((cs.drop s.1).take s.2)[j]? = some v → VR E c v) →
    (cellsDL ds).length + o = cs.length ∧ ∀ (j : Nat) (c : V) (v : Value), (cellsDL ds)[j]? = some c → (cs.drop o)[j]? = some v → VR E c v
  | [], ds, o, h, hl, _ => by
    have : ds = [] := List.eq_nil_of_length_eq_zero hl
    subst this
    simp only [consecS, beq_iff_eq] at h
    simp [cellsDL, h]
  | (a, b) :: sp, ds, o, h, hl, hk => by
    cases ds with
    | nil => cases hl
    | cons d ds =>
      simp only [consecS, Bool.and_eq_true, beq_iff_eq] at h
      obtain ⟨rfl, h⟩ := h
      obtain ⟨k1, k2⟩ := hk 0 (a, b) d rfl rfl
      simp only at k1 k2
      obtain ⟨k3, k4⟩ := cat_cells sp ds (a + b) h (by simpa using hl) (fun i s d' hs hd => hk (i + 1) s d' (by simpa using hs) (by simpa using hd))
      refine ⟨by simp only [cellsDL, List.length_append, k1]; omega, fun j c v hc hv => ?_⟩
      simp only [cellsDL] at hc
      by_cases hj : j < b
      · rw [List.getElem?_append_left (by omega)] at hc
        exact k2 j c v hc (by rw [List.getElem?_take, if_pos hj]; exact hv)
      · rw [List.getElem?_append_right (by omega), k1] at hc
        refine k4 (j - b) c v hc ?_
        rw [List.getElem?_drop] at hv ⊢
        rw [show a + b + (j - b) = a + j from by omega]
        exact hv

theorem trod_array_get {enc : TypeId × Value → Hd} {P : Program} {w : World} {base : Nat} {spare : Nat → Bool} {held : Bool} {fuel : Nat} {t e : TypeId} {m : Nat} {cs : List Value} {x : DataW Hd × List MemPlace}
    (ht : P.underlying t = some (.array m e)) (h : DataW.trod enc P w base spare held fuel t cs = some x) :
    ∃ (xs : List (DataW Hd × List MemPlace)) (n : Nat), fuel = n + 1 ∧ x = (.agg (xs.map (·.1)), xs.flatMap (·.2)) ∧ cs.length = P.cellsOf t ∧ xs.length = m ∧
      ∀ i, i < m → DataW.trod enc P w base spare held n e ((cs.drop (i * P.cellsOf e)).take (P.cellsOf e)) = xs[i]? := by
  cases fuel with
  | zero => simp [DataW.trod] at h
  | succ n =>
    unfold DataW.trod at h
    rw [ht] at h
    split at h <;> simp_all
    obtain ⟨hl, xs, hp, hd⟩ := h
    exact ⟨xs, hd.symm, by simpa using mapM_some_length hp, fun i hi => mapM_some_get hp i i (by simp [hi])⟩

theorem add_off (a : Addr) (n : Nat) (h : a.spot = none) : a.add n = ⟨a.block, a.off + n, none⟩ := by
  unfold Addr.add
  split
  · rename_i h0
    subst h0
    cases a
    simp_all
  · rfl

theorem cell_im {W : World} {b o : Nat} {x : Value} (h : W.cell? ⟨b, o, none⟩ = some x) : ∃ c, allIm W b = some c ∧ c[o]? = some x := by
  unfold World.cell? at h
  split at h
  · rename_i c t fr hb
    simp only [Option.isSome_none] at h
    exact ⟨c, allIm_mk hb, by simpa using h⟩
  · cases h

theorem open_ok {enc : TypeId × Value → Hd} {P : Program} {W : World} {tk : Nat → Option Value} {ts : List TypeId} {base : Nat} {spare : Nat → Bool} {held : Bool} (hp : plainB P ts = true) :
    ∀ (fuel : Nat) (t : TypeId) (cs : List Value) (x : DataW Hd × List MemPlace), t ∈ ts → DataW.trod enc P W base spare held fuel t cs = some x →
    (cellsD x.1).length = P.cellsOf t ∧ cs.length = P.cellsOf t ∧ ∀ (i : Nat) (c : V) (v : Value), (cellsD x.1)[i]? = some c → cs[i]? = some v → VR (E0 W tk) c v
  | 0, t, cs, x, ht, h => by simp [DataW.trod] at h
  | fuel + 1, t, cs, x, ht, h => by
    have hpt := List.all_eq_true.1 hp t ht
    unfold plainT at hpt
    split at hpt
    · rename_i hu
      obtain ⟨b, rfl, rfl⟩ := DataW.trod_bool hu h
      simp only [beq_iff_eq] at hpt
      refine ⟨by simp [cellsD, hpt], by simp [hpt], fun i c v hc hv => ?_⟩
      cases i with
      | zero => simp [cellsD] at hc hv; subst hc; subst hv; exact .bool b
      | succ i => simp [cellsD] at hc
    · rename_i hu
      obtain ⟨n, rfl, rfl, _⟩ := DataW.trod_int hu h
      simp only [beq_iff_eq] at hpt
      refine ⟨by simp [cellsD, hpt], by simp [hpt], fun i c v hc hv => ?_⟩
      cases i with
      | zero => simp [cellsD] at hc hv; subst hc; subst hv; exact .int _ n
      | succ i => simp [cellsD] at hc
    · rename_i hu
      obtain ⟨s, rfl, rfl, _⟩ := DataW.trod_string hu h
      simp only [beq_iff_eq] at hpt
      refine ⟨by simp [cellsD, hpt], by simp [hpt], fun i c v hc hv => ?_⟩
      cases i with
      | zero =>
        simp [cellsD] at hc hv; subst hc; subst hv
        have := VR.str (E := E0 W tk) s.data.toList
        simpa using this
      | succ i => simp [cellsD] at hc
    · rename_i e hu
      simp only [Bool.and_eq_true, beq_iff_eq, List.contains_iff_mem, decide_eq_true_eq] at hpt
      obtain ⟨⟨h1, he⟩, hce⟩ := hpt
      rcases DataW.trod_slice hu h with ⟨rfl, rfl⟩ | ⟨a, len, cap, elems, rest, n, hn, rfl, rfl, hb, hlc, _, hel, hget, _⟩
      · refine ⟨by simp [cellsD, h1], by simp [h1], fun i c v hc hv => ?_⟩
        cases i with
        | zero => simp [cellsD] at hc hv; subst hc; subst hv; exact .nils
        | succ i => simp [cellsD] at hc
      · cases hn
        refine ⟨by simp [cellsD, h1], by simp [h1], fun i c v hc hv => ?_⟩
        cases i with
        | succ i => simp [cellsD] at hc
        | zero =>
          simp [cellsD] at hc hv; subst hc; subst hv
          have hlen : (elemsD (elems.map (·.1))).length = len := by rw [length_elemsD]; simpa using hel
          by_cases hz : len = 0
          · have : elems = [] := List.eq_nil_of_length_eq_zero (by omega)
            subst this
            subst hz
            exact .vec0 a cap
          · -- each element's cells
            have each : ∀ i, i < len → ∃ cs' y, W.cells? base (a.add (i * P.cellsOf e)) (P.cellsOf e) = some cs' ∧ elems[i]? = some y ∧ DataW.trod enc P W base spare held fuel e cs' = some y := by
              intro i hi
              have := hget i hi
              obtain ⟨y, hy⟩ : ∃ y, elems[i]? = some y := ⟨elems[i]'(by omega), by simp [hel, hi]⟩
              rw [hy] at this
              obtain ⟨cs', hc1, hc2⟩ := Option.bind_eq_some_iff.1 this
              exact ⟨cs', y, hc1, hy, hc2⟩
            have hspot : a.spot = none := by
              obtain ⟨cs', y, hc1, _, _⟩ := each 0 (by omega)
              obtain ⟨_, hl, hc⟩ := World.cells?_some hc1
              have h0 := hc 0 hce
              obtain ⟨v0, hv0⟩ : ∃ v0, cs'[0]? = some v0 := ⟨cs'[0]'(by omega), by simp [hl, hce]⟩
              rw [hv0] at h0
              simp only [Addr.add, Nat.zero_mul, if_true] at h0
              unfold World.cell? at h0
              split at h0
              · split at h0
                · cases h0
                · rename_i hs
                  cases hsp : a.spot with
                  | none => rfl
                  | some s => simp [hsp] at hs
              · cases h0
            have cellAt : ∀ i, i < len → ∃ cs' y, elems[i]? = some y ∧ cs'.length = P.cellsOf e ∧ DataW.trod enc P W base spare held fuel e cs' = some y ∧
                ∀ j, j < P.cellsOf e → W.cell? ⟨a.block, a.off + (i * P.cellsOf e + j), none⟩ = cs'[j]? := by
              intro i hi
              obtain ⟨cs', y, hc1, hc2, hc3⟩ := each i hi
              obtain ⟨_, hl, hc⟩ := World.cells?_some hc1
              refine ⟨cs', y, hc2, hl, hc3, fun j hj => ?_⟩
              rw [← hc j hj, add_off a _ hspot, add_off _ _ rfl, Nat.add_assoc]
            obtain ⟨blk, hblk⟩ : ∃ blk, allIm W a.block = some blk := by
              obtain ⟨cs', y, _, hl, _, hc⟩ := cellAt 0 (by omega)
              have h0 := hc 0 hce
              obtain ⟨v0, hv0⟩ : ∃ v0, cs'[0]? = some v0 := ⟨cs'[0]'(by omega), by simp [hl, hce]⟩
              rw [hv0] at h0
              obtain ⟨c, hc, _⟩ := cell_im h0
              exact ⟨c, hc⟩
            have inBlk : ∀ i j (x : Value), W.cell? ⟨a.block, a.off + (i * P.cellsOf e + j), none⟩ = some x → blk[a.off + (i * P.cellsOf e + j)]? = some x := by
              intro i j x hx
              obtain ⟨c, hc, hx'⟩ := cell_im hx
              rw [hblk] at hc; cases hc
              exact hx'
            have key := VR.vec (E := E0 W tk) (es := elemsD (elems.map (·.1))) (b := a.block) (o := a.off) (esz := P.cellsOf e) (cap := cap) (cells := blk) hblk (by rw [hlen]; exact hlc)
              (fun i v hv => by
                obtain ⟨d, hd, rfl⟩ := get_elemsD _ _ _ hv
                have hi : i < len := by
                  rcases Nat.lt_or_ge i len with h | h
                  · exact h
                  · rw [List.getElem?_eq_none (by simp; omega)] at hd; cases hd
                obtain ⟨cs', y, hy, hl, ht', hc⟩ := cellAt i hi
                rw [List.getElem?_map, hy] at hd
                simp only [Option.map_some, Option.some.injEq] at hd
                subst hd
                have ih := open_ok (tk := tk) hp fuel e cs' y he ht'
                refine ⟨by simpa [V.cells] using ih.1, ?_⟩
                obtain ⟨v0, hv0⟩ : ∃ v0, cs'[P.cellsOf e - 1]? = some v0 := ⟨cs'[P.cellsOf e - 1]'(by omega), by simp⟩
                have h0 := hc (P.cellsOf e - 1) (by omega)
                rw [hv0] at h0
                have := inBlk _ _ _ h0
                have := (Array.getElem?_eq_some_iff.1 this).1
                omega)
              (fun i j v c x hv hc hx => by
                obtain ⟨d, hd, rfl⟩ := get_elemsD _ _ _ hv
                have hi : i < len := by
                  rcases Nat.lt_or_ge i len with h | h
                  · exact h
                  · rw [List.getElem?_eq_none (by simp; omega)] at hd; cases hd
                obtain ⟨cs', y, hy, hl, ht', hcell⟩ := cellAt i hi
                rw [List.getElem?_map, hy] at hd
                simp only [Option.map_some, Option.some.injEq] at hd
                subst hd
                have ih := open_ok (tk := tk) hp fuel e cs' y he ht'
                simp only [V.cells] at hc
                have hj : j < P.cellsOf e := by
                  rcases Nat.lt_or_ge j (P.cellsOf e) with h | h
                  · exact h
                  · rw [List.getElem?_eq_none (by rw [ih.1]; exact h)] at hc; cases hc
                obtain ⟨u, hu'⟩ : ∃ u, cs'[j]? = some u := ⟨cs'[j]'(by omega), by simp [hl, hj]⟩
                have h0 := hcell j hj
                rw [hu'] at h0
                have h1 := inBlk _ _ _ h0
                rw [← Nat.add_assoc] at h1
                rw [h1] at hx; cases hx
                exact ih.2.2 j c _ hc hu')
            rw [hlen] at key
            have ea : a = ⟨a.block, a.off, none⟩ := by cases a; simp_all
            rw [ea]
            exact key
    · rename_i fs hu
      simp only [Bool.and_eq_true, List.all_eq_true, List.contains_iff_mem] at hpt
      obtain ⟨hts, hcon⟩ := hpt
      obtain ⟨xs, n, hn, rfl, hl, hxl, hget⟩ := DataW.trod_struct hu h
      cases hn
      have key := cat_cells (E := E0 W tk) (cs := cs) (fs.toList.map fun f => (f.offset, P.cellsOf f.type)) (xs.map (·.1)) 0 (by rw [hl]; exact hcon) (by simp [hxl]) (fun i s d hs hd => by
        simp only [List.getElem?_map, Option.map_eq_some_iff] at hs hd
        obtain ⟨f, hf, rfl⟩ := hs
        obtain ⟨y, hy, rfl⟩ := hd
        have hf' : fs[i]? = some f := by simpa using hf
        have ht' := hget i f hf'
        rw [hy] at ht'
        have ih := open_ok (tk := tk) hp fuel f.type _ y (hts f (List.mem_of_getElem? hf)) ht'
        exact ⟨ih.1, ih.2.2⟩)
      refine ⟨by have := key.1; simp only [Nat.add_zero] at this; simp only [cellsD]; omega, hl, fun i c v hc hv => key.2 i c v (by simpa [cellsD] using hc) (by simpa using hv)⟩
    · rename_i m e hu
      simp only [Bool.and_eq_true, List.contains_iff_mem] at hpt
      obtain ⟨he, hcon⟩ := hpt
      obtain ⟨xs, n, hn, rfl, hl, hxl, hget⟩ := trod_array_get hu h
      cases hn
      have key := cat_cells (E := E0 W tk) (cs := cs) ((List.range m).map fun i => (i * P.cellsOf e, P.cellsOf e)) (xs.map (·.1)) 0 (by rw [hl]; exact hcon) (by simp [hxl]) (fun i s d hs hd => by
        simp only [List.getElem?_map, Option.map_eq_some_iff] at hs hd
        obtain ⟨k, hk, rfl⟩ := hs
        obtain ⟨y, hy, rfl⟩ := hd
        obtain ⟨hi, rfl⟩ : i < m ∧ i = k := by
          obtain ⟨hi, hk'⟩ := List.getElem?_eq_some_iff.1 hk
          simp at hi hk'
          exact ⟨hi, hk'⟩
        have ht' := hget i hi
        rw [hy] at ht'
        have ih := open_ok (tk := tk) hp fuel e _ y he ht'
        exact ⟨ih.1, ih.2.2⟩)
      refine ⟨by have := key.1; simp only [Nat.add_zero] at this; simp only [cellsD]; omega, hl, fun i c v hc hv => key.2 i c v (by simpa [cellsD] using hc) (by simpa using hv)⟩
    · cases hpt

end Am

/-
  Arguments read again behind a call that leaves all memory as it was.
-/
namespace Am
open Go

variable {Hd : Type} {enc : TypeId × Value → Hd} {P : Program} {W W' : World}

theorem Still.sameAt (h : Still W W') {p : MemPlace} (hp : p.block < W.heap.size) : W.sameAt W' p := by
  cases p with
  | cell b off =>
    have hp : b < W.heap.size := hp
    show W'.cell? ⟨b, off, none⟩ = W.cell? ⟨b, off, none⟩
    unfold World.cell?
    rw [h.heap b hp]
  | map b => exact h.heap b hp

theorem trodAll_still (h : Still W W') {base : Nat} {sp : Nat → Bool} {held : Bool} : ∀ {ts : List TypeId} {vs : List Value} {ds : List (DataW Hd)} {ps : List MemPlace},
    DataW.TrodAll enc P W base sp held ts vs ds ps → DataW.TrodAll enc P W' base sp held ts vs ds ps
  | [], [], [], _, k => k
  | _ :: _, _ :: _, _ :: _, _, ⟨a, b, ⟨n, h1⟩, h2, e⟩ => ⟨a, b, ⟨n, DataW.trod_carry n _ _ _ h1 fun p hp => h.sameAt (DataW.trod_lt n _ _ _ h1 p hp)⟩, trodAll_still h h2, e⟩

/-- The arguments' reading again. -/
theorem again (hl : laidOutB P = true) (hm : mapsRowed P = true)
    (hz : ((List.range P.types.size).all fun t => match P.underlying t with | some (.slice e) => decide (0 < P.cellsOf e) | _ => true) = true)
    {ts : List TypeId} (hT : ∀ t ∈ ts, t < P.types.size) {vs : List Value} {ds : List (DataW Hd)} {ps : List MemPlace}
    (h : DataW.TrodAll enc P W 0 (fun _ => true) true ts vs ds ps) (hst : Still W W') {sp : Nat → Bool} (hs : ∀ p ∈ ps, sp p.block = true) :
    DataW.TrodAll enc P W' 0 sp true ts vs ds ps :=
  DataW.TrodAll.respare (kids_rows hl hm) (slices_full_of P hz) hT (trodAll_still hst h) hs

end Am
