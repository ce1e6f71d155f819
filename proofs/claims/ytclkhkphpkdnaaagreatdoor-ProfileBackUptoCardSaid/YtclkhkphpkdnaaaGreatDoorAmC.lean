/-
  An abstract machine for Go programs, sound for the model: part C. Conditions: none beyond those that each theorem states.
-/
import Derived.ChangeSame
import Derived.RowKit
import Derived.Lib.LaidTab
import Derived.ChangeReads
import Derived.ReadAgain
import Derived.Below
import Derived.Lib.Join
import Derived.Test.YtclkhkphpkdnaaaGreatDoorAmB
/-
  A run with a script: some calls are answered by a list of answers, one behind the other, and logged; whatever holds of the logged calls makes the run one of the plain evaluator.
-/
namespace Am
open Go

/-- An answer of the script: a call's, an operation's. -/
inductive SI where
  | ans (f : Nat) (v : V)
  | val (v : V)

/-- What was answered so. -/
inductive LE where
  | call (f : Nat) (args : List V) (v : V)
  | bin (op : BinOp) (q : EqK) (x y v : V)

def LE.ok (P : CallF) : LE → Prop
  | .call f args v => ∀ h, P f args h = some (v, h)
  | .bin op q x y v => binV op q x y = some v

structure Sc where
  script : List SI
  log : List LE

abbrev CallL := Nat → List V → Heap → Sc → Option (V × Heap × Sc)
abbrev ResL := Option (V × Heap × Sc)
abbrev OutL := Option (Ex × List V × Heap × Sc)

def l_call (call : CallL) (f : Nat) (args : List Opd) (ls vs : List V) (h : Heap) (s : Sc) : ResL :=
  match evs ls vs args with
  | some as => call f as h s
  | none => none

def l_callv (call : CallL) (f : Opd) (args : List Opd) (ls vs : List V) (h : Heap) (s : Sc) : ResL :=
  match ev ls vs f, evs ls vs args with
  | some (.fn f first caps), some as => call f (first ++ as ++ caps) h s
  | _, _ => none

def l_opv (k : AK) (ls vs : List V) (h : Heap) (s : Sc) : ResL :=
  match opv k ls vs h with
  | some (v, h') => some (v, h', s)
  | none => none

def l_bin (b : BinOp → Bool) (op : BinOp) (q : EqK) (x y : Opd) (ls vs : List V) (h : Heap) (s : Sc) : ResL :=
  match b op with
  | true => match ev ls vs x, ev ls vs y with
    | some x, some y => match s.script with
      | .val v :: r => some (v, h, ⟨r, .bin op q x y v :: s.log⟩)
      | _ => none
    | _, _ => none
  | false => l_opv (.bin op q x y) ls vs h s

def lopc (b : BinOp → Bool) (call : CallL) : AK → List V → List V → Heap → Sc → ResL
  | .call f args => l_call call f args
  | .callv f args => l_callv call f args
  | .bin op q x y => l_bin b op q x y
  | k => l_opv k

def lstepO (b : BinOp → Bool) (call : CallL) (o : AOp) (ls vs : List V) (h : Heap) (s : Sc) : ResL :=
  match wantedV ls o.g with
  | none => none
  | some false => some (.tuple [], h, s)
  | some true => lopc b call o.k ls vs h s

def lrunOps (b : BinOp → Bool) (call : CallL) : List AOp → List V → List V → Heap → Sc → Option (List V × Heap × Sc)
  | [], ls, _, h, s => some (ls, h, s)
  | o :: os, ls, vs, h, s =>
    match lstepO b call o ls vs h s with
    | some (v, h', s') => lrunOps b call os (v :: ls) vs h' s'
    | none => none

def liter (f : List V → Heap → Sc → OutL) : Nat → List V → Heap → Sc → OutL
  | 0, _, _, _ => none
  | n + 1, vs, h, s => match f vs h s with
    | some (.normal, vs', h', s') => liter f n vs' h' s'
    | some (.exit i, vs', h', s') => some (.exit i, vs', h', s')
    | some (.ret, vs', h', s') => some (.ret, vs', h', s')
    | none => none

def lx_reg (b : BinOp → Bool) (call : CallL) (ops : List AOp) (outs : List (Nat × Nat)) (vs : List V) (h : Heap) (s : Sc) : OutL :=
  match lrunOps b call ops [] vs h s with
  | some (ls, h', s') => match outsV ls outs vs with
    | some vs' => some (.normal, vs', h', s')
    | none => none
  | none => none

def lx_reg2 (b : BinOp → Bool) (call : CallL) (ops : List AOp) (s1 s2 : AOp) (outs : List (Nat × Nat)) (vs : List V) (h : Heap) (s : Sc) : OutL :=
  match lrunOps b call ops [] vs h s with
  | some (ls, h', s') => match target ls vs s1, target ls vs s2 with
    | some a, some b => match Nat.beq a b with
      | true => none
      | false => match opv s1.k ls vs h' with
        | some (_, h1) => match opv s2.k ls vs h1 with
          | some (_, h2) => match outsV ls outs vs with
            | some vs' => some (.normal, vs', h2, s')
            | none => none
          | none => none
        | none => none
    | _, _ => none
  | none => none

def lx_seq (a b : List V → Heap → Sc → OutL) (vs : List V) (h : Heap) (s : Sc) : OutL :=
  match a vs h s with
  | some (.normal, vs', h', s') => b vs' h' s'
  | some (.exit i, vs', h', s') => some (.exit i, vs', h', s')
  | some (.ret, vs', h', s') => some (.ret, vs', h', s')
  | none => none

def lx_cond (c : Opd) (a b : List V → Heap → Sc → OutL) (vs : List V) (h : Heap) (s : Sc) : OutL :=
  match ev [] vs c with
  | some (.bool true) => a vs h s
  | some (.bool false) => b vs h s
  | _ => none

def lx_block (id : Nat) (b : List V → Heap → Sc → OutL) (vs : List V) (h : Heap) (s : Sc) : OutL :=
  match b vs h s with
  | some (.exit i, vs', h', s') => match Nat.beq i id with
    | true => some (.normal, vs', h', s')
    | false => some (.exit i, vs', h', s')
  | r => r

def lx_coin (s : Nat) (a : AC) (vs : List V) (h : Heap) (sc : Sc) : OutL :=
  match x_coin s a vs h with
  | some (e, vs', h') => some (e, vs', h', sc)
  | none => none

def lexec (c : BinOp → Bool) (call : CallL) (fuel : Nat) : AC → List V → Heap → Sc → OutL
  | .skip => fun vs h s => some (.normal, vs, h, s)
  | .reg ops outs => lx_reg c call ops outs
  | .reg2 ops s1 s2 outs => lx_reg2 c call ops s1 s2 outs
  | .seq a b => lx_seq (lexec c call fuel a) (lexec c call fuel b)
  | .cond d a b => lx_cond d (lexec c call fuel a) (lexec c call fuel b)
  | .coin s a => lx_coin s a
  | .block id b => lx_block id (lexec c call fuel b)
  | .loop b => liter (lexec c call fuel b) fuel
  | .exit id => fun vs h s => some (.exit id, vs, h, s)
  | .ret => fun vs h s => some (.ret, vs, h, s)
  | .stuck => fun _ _ _ => none

def lbody (c : BinOp → Bool) (call : CallL) (fuel : Nat) (a : AFunc) (args : List V) (h : Heap) (s : Sc) : ResL :=
  match Nat.beq args.length a.nparams with
  | false => none
  | true => match lexec c call fuel a.code (initV a.slots args) h s with
    | some (.exit _, _, _, _) => none
    | some (_, vs, h', s') => match resV vs h' a.res with
      | some l => some (packV l, h', s')
      | none => none
    | none => none

/-- As 'run'; calls of the functions 'A', and operations 'B' of a function, are answered by the script. -/
def runL (T : Nat → Option AFunc) (A : Nat → Bool) (B : Nat → BinOp → Bool) (O : CallF) : Nat → CallL
  | 0, _, _, _, _ => none
  | n + 1, f, args, h, s =>
    match A f with
    | true => match s.script with
      | .ans g v :: r => match Nat.beq g f with
        | true => some (v, h, ⟨r, .call f args v :: s.log⟩)
        | false => none
      | _ => none
    | false => match O f args h with
      | some (v, h') => some (v, h', s)
      | none => match T f with
        | some a => lbody (B f) (runL T A B O n) n a args h s
        | none => none

/-- Either's answers, the first one's ahead. -/
def orO (P O : CallF) : CallF := fun f args h => match P f args h with
  | some r => some r
  | none => O f args h

theorem orO_ok {C : Ctx} {P O : CallF} (hP : CallOk C P) (hO : CallOk C O) : CallOk C (orO P O) := by
  intro f args H v H' h
  unfold orO at h
  split at h
  · rename_i r hr
    rw [h] at hr
    exact hP _ _ _ _ _ hr
  · exact hO _ _ _ _ _ h

def ScExt (s s' : Sc) : Prop := ∃ l, s'.log = l ++ s.log
def Valid (P : CallF) (s : Sc) : Prop := ∀ e ∈ s.log, e.ok P

theorem ScExt.refl (s : Sc) : ScExt s s := ⟨[], rfl⟩
theorem ScExt.trans {a b c : Sc} (h : ScExt a b) (k : ScExt b c) : ScExt a c := by
  obtain ⟨l, hl⟩ := h
  obtain ⟨m, hm⟩ := k
  exact ⟨m ++ l, by rw [hm, hl, List.append_assoc]⟩
theorem Valid.back {P : CallF} {s s' : Sc} (h : ScExt s s') (hv : Valid P s') : Valid P s := by
  obtain ⟨l, hl⟩ := h
  intro e he
  exact hv e (by rw [hl]; exact List.mem_append_right _ he)

variable {P : CallF} {callL : CallL} {call : CallF}

def SimC (P : CallF) (callL : CallL) (call : CallF) : Prop :=
  ∀ f as h s v h' s', callL f as h s = some (v, h', s') → ScExt s s' ∧ (Valid P s' → call f as h = some (v, h'))
def SimX (P : CallF) (xL : List V → Heap → Sc → OutL) (x : List V → Heap → Out) : Prop :=
  ∀ vs h s e vs' h' s', xL vs h s = some (e, vs', h', s') → ScExt s s' ∧ (Valid P s' → x vs h = some (e, vs', h'))

theorem sim_opv {k : AK} {ls vs : List V} {h h' : Heap} {s s' : Sc} {v : V} (e : l_opv k ls vs h s = some (v, h', s')) : ScExt s s' ∧ (Valid P s' → opv k ls vs h = some (v, h')) := by
  unfold l_opv at e
  split at e
  · rename_i v1 h1 h2
    simp only [Option.some.injEq, Prod.mk.injEq] at e
    obtain ⟨rfl, rfl, rfl⟩ := e
    exact ⟨.refl _, fun _ => h2⟩
  · cases e

theorem sim_opc (b : BinOp → Bool) (hc : SimC P callL call) (k : AK) (ls vs : List V) (h : Heap) (s : Sc) (v : V) (h' : Heap) (s' : Sc) (e : lopc b callL k ls vs h s = some (v, h', s')) :
    ScExt s s' ∧ (Valid P s' → opc call k ls vs h = some (v, h')) := by
  cases k with
  | call f args =>
    have e : l_call callL f args ls vs h s = some (v, h', s') := e
    show ScExt s s' ∧ (Valid P s' → o_call call f args ls vs h = some (v, h'))
    unfold l_call at e
    unfold o_call
    split at e
    · rename_i as h1
      simp only [h1]
      exact hc _ _ _ _ _ _ _ e
    · cases e
  | callv f args =>
    have e : l_callv callL f args ls vs h s = some (v, h', s') := e
    show ScExt s s' ∧ (Valid P s' → o_callv call f args ls vs h = some (v, h'))
    unfold l_callv at e
    unfold o_callv
    split at e
    · rename_i h1 h2
      simp only [h1, h2]
      exact hc _ _ _ _ _ _ _ e
    · cases e
  | bin op q x y =>
    have e : l_bin b op q x y ls vs h s = some (v, h', s') := e
    show ScExt s s' ∧ (Valid P s' → o_bin op q x y ls vs h = some (v, h'))
    unfold l_bin at e
    split at e
    · split at e
      · rename_i x1 y1 h1 h2
        split at e
        · rename_i c r hr
          simp only [Option.some.injEq, Prod.mk.injEq] at e
          obtain ⟨rfl, rfl, rfl⟩ := e
          refine ⟨⟨[.bin op q x1 y1 c], rfl⟩, fun hv => ?_⟩
          have := hv (.bin op q x1 y1 c) (List.mem_cons_self ..)
          simp only [LE.ok] at this
          simp only [o_bin, h1, h2, binK_eq, this, keep]
        · cases e
      · cases e
    · exact sim_opv e
  | alloc z =>
    have e : l_opv (.alloc z) ls vs h s = some (v, h', s') := e
    exact sim_opv e
  | mkM =>
    have e : l_opv .mkM ls vs h s = some (v, h', s') := e
    exact sim_opv e
  | next it =>
    have e : l_opv (.next it) ls vs h s = some (v, h', s') := e
    exact sim_opv e
  | die =>
    have e : l_opv .die ls vs h s = some (v, h', s') := e
    exact sim_opv e
  | _ => exact sim_opv e

theorem sim_step (b : BinOp → Bool) (hc : SimC P callL call) (o : AOp) (ls vs : List V) (h : Heap) (s : Sc) (v : V) (h' : Heap) (s' : Sc) (e : lstepO b callL o ls vs h s = some (v, h', s')) :
    ScExt s s' ∧ (Valid P s' → stepO call o ls vs h = some (v, h')) := by
  unfold lstepO at e
  unfold stepO
  split at e
  · cases e
  · rename_i hw
    simp only [Option.some.injEq, Prod.mk.injEq] at e
    obtain ⟨rfl, rfl, rfl⟩ := e
    exact ⟨.refl _, fun _ => by simp only [hw]⟩
  · rename_i hw
    simp only [hw]
    exact sim_opc b hc _ _ _ _ _ _ _ _ e

theorem sim_ops (b : BinOp → Bool) (hc : SimC P callL call) : ∀ (os : List AOp) (ls vs : List V) (h : Heap) (s : Sc) (ls' : List V) (h' : Heap) (s' : Sc), lrunOps b callL os ls vs h s = some (ls', h', s') →
    ScExt s s' ∧ (Valid P s' → runOps call os ls vs h = some (ls', h'))
  | [], ls, vs, h, s, ls', h', s', e => by
    simp only [lrunOps, Option.some.injEq, Prod.mk.injEq] at e
    obtain ⟨rfl, rfl, rfl⟩ := e
    exact ⟨.refl _, fun _ => rfl⟩
  | o :: os, ls, vs, h, s, ls', h', s', e => by
    unfold lrunOps at e
    unfold runOps
    split at e
    · rename_i v h1 s1 h2
      obtain ⟨k1, k2⟩ := sim_step b hc o ls vs h s v h1 s1 h2
      obtain ⟨k3, k4⟩ := sim_ops b hc os (v :: ls) vs h1 s1 ls' h' s' e
      refine ⟨k1.trans k3, fun hv => ?_⟩
      rw [k2 (hv.back k3)]
      exact k4 hv
    · cases e

theorem sim_reg (c : BinOp → Bool) (hc : SimC P callL call) (ops : List AOp) (outs : List (Nat × Nat)) : SimX P (lx_reg c callL ops outs) (x_reg call ops outs) := by
  intro vs h s e vs' h' s' he
  unfold lx_reg at he
  split at he
  · rename_i ls h1 s1 h2
    obtain ⟨k1, k2⟩ := sim_ops c hc ops [] vs h s ls h1 s1 h2
    split at he
    · rename_i vs1 h3
      simp only [Option.some.injEq, Prod.mk.injEq] at he
      obtain ⟨rfl, rfl, rfl, rfl⟩ := he
      refine ⟨k1, fun hv => ?_⟩
      unfold x_reg
      rw [k2 hv]
      simp only [h3]
    · cases he
  · cases he

theorem sim_reg2 (c : BinOp → Bool) (hc : SimC P callL call) (ops : List AOp) (a b : AOp) (outs : List (Nat × Nat)) : SimX P (lx_reg2 c callL ops a b outs) (x_reg2 call ops a b outs) := by
  intro vs h s e vs' h' s' he
  unfold lx_reg2 at he
  split at he
  · rename_i ls h1 s1 h2
    obtain ⟨k1, k2⟩ := sim_ops c hc ops [] vs h s ls h1 s1 h2
    split at he
    · rename_i ta tb h3 h4
      split at he
      · cases he
      · rename_i h5
        split at he
        · rename_i v6 h6 h7
          split at he
          · rename_i v8 h8 h9
            split at he
            · rename_i vs1 h10
              simp only [Option.some.injEq, Prod.mk.injEq] at he
              obtain ⟨rfl, rfl, rfl, rfl⟩ := he
              refine ⟨k1, fun hv => ?_⟩
              unfold x_reg2
              rw [k2 hv]
              simp only [h3, h4, h5, h7, h9, h10]
            · cases he
          · cases he
        · cases he
    · cases he
  · cases he

theorem sim_seq {aL bL : List V → Heap → Sc → OutL} {a b : List V → Heap → Out} (ha : SimX P aL a) (hb : SimX P bL b) : SimX P (lx_seq aL bL) (x_seq a b) := by
  intro vs h s e vs' h' s' he
  unfold lx_seq at he
  unfold x_seq
  split at he
  · rename_i vs1 h1 s1 h2
    obtain ⟨k1, k2⟩ := ha _ _ _ _ _ _ _ h2
    obtain ⟨k3, k4⟩ := hb _ _ _ _ _ _ _ he
    refine ⟨k1.trans k3, fun hv => ?_⟩
    rw [k2 (hv.back k3)]
    exact k4 hv
  · rename_i h2
    simp only [Option.some.injEq, Prod.mk.injEq] at he
    obtain ⟨rfl, rfl, rfl, rfl⟩ := he
    obtain ⟨k1, k2⟩ := ha _ _ _ _ _ _ _ h2
    exact ⟨k1, fun hv => by rw [k2 hv]⟩
  · rename_i h2
    simp only [Option.some.injEq, Prod.mk.injEq] at he
    obtain ⟨rfl, rfl, rfl, rfl⟩ := he
    obtain ⟨k1, k2⟩ := ha _ _ _ _ _ _ _ h2
    exact ⟨k1, fun hv => by rw [k2 hv]⟩
  · cases he

theorem sim_cond (c : Opd) {aL bL : List V → Heap → Sc → OutL} {a b : List V → Heap → Out} (ha : SimX P aL a) (hb : SimX P bL b) : SimX P (lx_cond c aL bL) (x_cond c a b) := by
  intro vs h s e vs' h' s' he
  unfold lx_cond at he
  unfold x_cond
  split at he
  · rename_i h1
    rw [h1]
    exact ha _ _ _ _ _ _ _ he
  · rename_i h1
    rw [h1]
    exact hb _ _ _ _ _ _ _ he
  · cases he

theorem sim_block (id : Nat) {bL : List V → Heap → Sc → OutL} {b : List V → Heap → Out} (hb : SimX P bL b) : SimX P (lx_block id bL) (x_block id b) := by
  intro vs h s e vs' h' s' he
  unfold lx_block at he
  unfold x_block
  split at he
  · rename_i i vs1 h1 s1 h2
    obtain ⟨k1, k2⟩ := hb _ _ _ _ _ _ _ h2
    split at he
    · rename_i h3
      simp only [Option.some.injEq, Prod.mk.injEq] at he
      obtain ⟨rfl, rfl, rfl, rfl⟩ := he
      exact ⟨k1, fun hv => by rw [k2 hv]; simp only [h3]⟩
    · rename_i h3
      simp only [Option.some.injEq, Prod.mk.injEq] at he
      obtain ⟨rfl, rfl, rfl, rfl⟩ := he
      exact ⟨k1, fun hv => by rw [k2 hv]; simp only [h3]⟩
  · rename_i h2
    obtain ⟨k1, k2⟩ := hb _ _ _ _ _ _ _ he
    refine ⟨k1, fun hv => ?_⟩
    rw [k2 hv]
    cases e with
    | exit i => exact absurd he (h2 _ _ _ _)
    | normal => rfl
    | ret => rfl

theorem sim_iter {fL : List V → Heap → Sc → OutL} {f : List V → Heap → Out} (hf : SimX P fL f) : ∀ n, SimX P (liter fL n) (iter f n)
  | 0 => by
    intro vs h s e vs' h' s' he
    simp [liter] at he
  | n + 1 => by
    intro vs h s e vs' h' s' he
    unfold liter at he
    unfold iter
    split at he
    · rename_i vs1 h1 s1 h2
      obtain ⟨k1, k2⟩ := hf _ _ _ _ _ _ _ h2
      obtain ⟨k3, k4⟩ := sim_iter hf n _ _ _ _ _ _ _ he
      refine ⟨k1.trans k3, fun hv => ?_⟩
      rw [k2 (hv.back k3)]
      exact k4 hv
    · rename_i h2
      simp only [Option.some.injEq, Prod.mk.injEq] at he
      obtain ⟨rfl, rfl, rfl, rfl⟩ := he
      obtain ⟨k1, k2⟩ := hf _ _ _ _ _ _ _ h2
      exact ⟨k1, fun hv => by rw [k2 hv]⟩
    · rename_i h2
      simp only [Option.some.injEq, Prod.mk.injEq] at he
      obtain ⟨rfl, rfl, rfl, rfl⟩ := he
      obtain ⟨k1, k2⟩ := hf _ _ _ _ _ _ _ h2
      exact ⟨k1, fun hv => by rw [k2 hv]⟩
    · cases he

theorem sim_exec (z : BinOp → Bool) (hc : SimC P callL call) (fuel : Nat) : ∀ c, SimX P (lexec z callL fuel c) (exec call fuel c)
  | .skip => by
    intro vs h s e vs' h' s' he
    simp only [lexec, Option.some.injEq, Prod.mk.injEq] at he
    obtain ⟨rfl, rfl, rfl, rfl⟩ := he
    exact ⟨.refl _, fun _ => rfl⟩
  | .reg ops outs => sim_reg z hc ops outs
  | .reg2 ops a b outs => sim_reg2 z hc ops a b outs
  | .seq a b => sim_seq (sim_exec z hc fuel a) (sim_exec z hc fuel b)
  | .cond c a b => sim_cond c (sim_exec z hc fuel a) (sim_exec z hc fuel b)
  | .coin s a => by
    intro vs h sc e vs' h' s' he
    simp only [lexec, lx_coin] at he
    split at he
    · rename_i hx
      simp only [Option.some.injEq, Prod.mk.injEq] at he
      obtain ⟨rfl, rfl, rfl, rfl⟩ := he
      exact ⟨.refl _, fun _ => by simp only [exec, hx]⟩
    · cases he
  | .block id b => sim_block id (sim_exec z hc fuel b)
  | .loop b => sim_iter (sim_exec z hc fuel b) fuel
  | .exit id => by
    intro vs h s e vs' h' s' he
    simp only [lexec, Option.some.injEq, Prod.mk.injEq] at he
    obtain ⟨rfl, rfl, rfl, rfl⟩ := he
    exact ⟨.refl _, fun _ => rfl⟩
  | .ret => by
    intro vs h s e vs' h' s' he
    simp only [lexec, Option.some.injEq, Prod.mk.injEq] at he
    obtain ⟨rfl, rfl, rfl, rfl⟩ := he
    exact ⟨.refl _, fun _ => rfl⟩
  | .stuck => by
    intro vs h s e vs' h' s' he
    simp [lexec] at he

theorem sim_body (z : BinOp → Bool) (hc : SimC P callL call) (fuel : Nat) (a : AFunc) (args : List V) (h : Heap) (s : Sc) (v : V) (h' : Heap) (s' : Sc) (e : lbody z callL fuel a args h s = some (v, h', s')) :
    ScExt s s' ∧ (Valid P s' → body call fuel a args h = some (v, h')) := by
  unfold lbody at e
  unfold body
  split at e
  · cases e
  · rename_i h0
    rw [h0]
    simp only
    split at e
    · cases e
    · rename_i ex vs h1 s1 h2 h3
      obtain ⟨k1, k2⟩ := sim_exec z hc fuel a.code _ _ _ _ _ _ _ h3
      split at e
      · rename_i l h4
        simp only [Option.some.injEq, Prod.mk.injEq] at e
        obtain ⟨rfl, rfl, rfl⟩ := e
        refine ⟨k1, fun hv => ?_⟩
        rw [k2 hv]
        cases ex with
        | exit i => exact (h2 _ rfl).elim
        | normal => simp only [h4]
        | ret => simp only [h4]
      · cases e
    · cases e

theorem sim_run {T : Nat → Option AFunc} {A : Nat → Bool} {B : Nat → BinOp → Bool} {O : CallF} (hA : ∀ f args h, A f = false → P f args h = none) : ∀ n, SimC P (runL T A B O n) (run T (orO P O) n)
  | 0 => by
    intro f as h s v h' s' e
    simp [runL] at e
  | n + 1 => by
    intro f as h s v h' s' e
    unfold runL at e
    unfold run
    split at e
    · rename_i h1
      split at e
      · rename_i g u r h2
        split at e
        · rename_i h3
          simp only [Option.some.injEq, Prod.mk.injEq] at e
          obtain ⟨rfl, rfl, rfl⟩ := e
          refine ⟨⟨[.call f as u], rfl⟩, fun hv => ?_⟩
          have := hv (.call f as u) (List.mem_cons_self ..) h
          simp only [orO, this]
        · cases e
      · cases e
    · rename_i h1
      have hP := hA f as h h1
      simp only [orO, hP]
      split at e
      · rename_i h2
        simp only [Option.some.injEq, Prod.mk.injEq] at e
        obtain ⟨rfl, rfl, rfl⟩ := e
        exact ⟨.refl _, fun _ => by rw [h2]⟩
      · rename_i h2
        rw [h2]
        simp only
        split at e
        · rename_i a h3
          rw [h3]
          exact sim_body (B f) (sim_run hA n) _ _ _ _ _ _ _ _ e
        · cases e

/-- A run with a script, whose logged calls hold, is a run. -/
theorem runL_ok {T : Nat → Option AFunc} {A : Nat → Bool} {B : Nat → BinOp → Bool} {O : CallF} (hA : ∀ f args h, A f = false → P f args h = none) {n f : Nat} {args : List V} {h h' : Heap} {s s' : Sc} {v : V}
    (e : runL T A B O n f args h s = some (v, h', s')) (hv : Valid P s') : run T (orO P O) n f args h = some (v, h') :=
  (sim_run hA n f args h s v h' s' e).2 hv

end Am

/-
  A scripted run over the empty heap is a contract.
-/
namespace Am
open Go

/-- A scripted run's result by value, and its log. -/
def runU (T : Nat → Option AFunc) (A : Nat → Bool) (B : Nat → BinOp → Bool) (O : CallF) (n d f : Nat) (args : List V) (script : List SI) : Option (V × List LE) :=
  match runL T A B O n f args Heap.empty ⟨script, []⟩ with
  | some (v, h, s) => match flatV h d v with
    | some u => some (u, s.log)
    | none => none
  | none => none

theorem script_run {P : Program} {glob : Nat → Option V} {T : Nat → Option AFunc} {A : Nat → Bool} {B : Nat → BinOp → Bool} {O Q : CallF} (hm : P.follows .mixedOrders = true)
    (hg : ∀ g v, glob g = some v → Flat (.vptr v 0)) (hT : TableOk P glob T) (hO : CallOk ⟨P, glob⟩ O) (hQ : CallOk ⟨P, glob⟩ Q) (hA : ∀ f args h, A f = false → Q f args h = none) (n d : Nat)
    {f : Nat} {args : List V} {script : List SI} {u : V} {log : List LE} (ha : V.flatBL args = true) (e : runU T A B O n d f args script = some (u, log)) (hv : ∀ e ∈ log, e.ok Q) : Memo.ok ⟨P, glob⟩ ⟨f, args, u⟩ := by
  unfold runU at e
  split at e
  · rename_i v h s h1
    split at e
    · rename_i u' h2
      simp only [Option.some.injEq, Prod.mk.injEq] at e
      obtain ⟨rfl, rfl⟩ := e
      have h3 := runL_ok (P := Q) hA h1 hv
      have h4 := run_ok hm hT (orO_ok hQ hO) n _ _ _ _ _ h3
      exact fun H => pure_rule hg h4 (flatBL_ok _ ha) h2 H
    · cases e
  · cases e

open Classical in
/-- Answers from what is known, of any arguments. -/
noncomputable def factO : List Memo → CallF
  | [], _, _, _ => none
  | m :: l, f, args, h => if m.f = f ∧ m.args = args then some (m.res, h) else factO l f args h

theorem factO_ok {C : Ctx} {l : List Memo} (h : ∀ m ∈ l, m.ok C) : CallOk C (factO l) := by
  induction l with
  | nil => intro f args H v H' h; cases h
  | cons m l ih =>
    intro f args H v H' he
    simp only [factO] at he
    split at he
    · rename_i hc
      obtain ⟨rfl, rfl⟩ := hc
      simp only [Option.some.injEq, Prod.mk.injEq] at he
      obtain ⟨rfl, rfl⟩ := he
      exact h m (by simp) H
    · exact ih (fun m hm => h m (by simp [hm])) f args H v H' he

theorem factO_none {l : List Memo} {A : Nat → Bool} (h : ∀ m ∈ l, A m.f = true) (f : Nat) (args : List V) (H : Heap) (hf : A f = false) : factO l f args H = none := by
  induction l with
  | nil => rfl
  | cons m l ih =>
    simp only [factO]
    rw [if_neg (fun hc => by have := h m (by simp); rw [hc.1, hf] at this; cases this)]
    exact ih fun m hm => h m (by simp [hm])

end Am

/-
  The same evaluators by bare recursors: the kernel copies less. They are equal to the plain ones.
-/
namespace Am
open Go

noncomputable def opvR (k : AK) : List V → List V → Heap → Res :=
  AK.rec (motive := fun _ => List V → List V → Heap → Res)
    (fun x => o_mv x)
    (fun c a b => o_pick c a b)
    (fun zero => o_alloc zero)
    (fun size x => o_box size x)
    (fun zero parts => o_build zero parts)
    (fun n esz zero parts => o_bslice n esz zero parts)
    (fun ag n a => o_load ag n a)
    (fun n a x => o_store n a x)
    (fun x => o_nilck x)
    (fun op q x y => o_bin op q x y)
    (fun op x => o_un op x)
    (fun k x => o_toInt k x)
    (fun x => o_strId x)
    (fun x => o_toStr x)
    (fun x => o_toBytes x)
    (fun t x => o_mkI t x)
    (fun f first caps => o_mkF f first caps)
    (o_mkM)
    (fun esz bytes zero l c => o_mkS esz bytes zero l c)
    (fun x lo hi => o_slS x lo hi)
    (fun esz x lo hi mx => o_slL esz x lo hi mx)
    (fun n esz x lo hi => o_slA n esz x lo hi)
    (fun off x => o_fadr off x)
    (fun ag n off x => o_fld ag n off x)
    (fun esz x i => o_iadr esz x i)
    (fun len esz x i => o_iadrA len esz x i)
    (fun x i => o_idxS x i)
    (fun ag len esz x i => o_idxA ag len esz x i)
    (fun kk zero ok m k => o_look kk zero ok m k)
    (fun kk m k x => o_mput kk m k x)
    (fun kk m k => o_mdel kk m k)
    (fun k x => o_len k x)
    (fun x l => o_mx x l)
    (fun x l => o_mn x l)
    (fun esz s x => o_app esz s x)
    (fun esz zero s n => o_appz esz zero s n)
    (fun esz d s => o_copy esz d s)
    (fun i x => o_ext i x)
    (fun _f _args => fun _ _ _ => none)
    (fun _f _args => fun _ _ _ => none)
    (fun x => o_range x)
    (fun _u0 => fun _ _ _ => none)
    (fun t zero ok x => o_tassert t zero ok x)
    (fun i ag n a => o_chk i ag n a)
    (fun i kk zero ok m k => o_chkLook i kk zero ok m k)
    (fun i m => o_chkLen i m)
    (fun i => o_snap i)
    (fun i j => o_chkObj i j)
    (fun s c => o_xcount s c)
    (fun s c => o_xindex s c)
    (fun a b => o_xcmp a b)
    (o_die) k

noncomputable def opcR (call : CallF) (k : AK) : List V → List V → Heap → Res :=
  AK.rec (motive := fun _ => List V → List V → Heap → Res)
    (fun x => o_mv x)
    (fun c a b => o_pick c a b)
    (fun zero => o_alloc zero)
    (fun size x => o_box size x)
    (fun zero parts => o_build zero parts)
    (fun n esz zero parts => o_bslice n esz zero parts)
    (fun ag n a => o_load ag n a)
    (fun n a x => o_store n a x)
    (fun x => o_nilck x)
    (fun op q x y => o_bin op q x y)
    (fun op x => o_un op x)
    (fun k x => o_toInt k x)
    (fun x => o_strId x)
    (fun x => o_toStr x)
    (fun x => o_toBytes x)
    (fun t x => o_mkI t x)
    (fun f first caps => o_mkF f first caps)
    (o_mkM)
    (fun esz bytes zero l c => o_mkS esz bytes zero l c)
    (fun x lo hi => o_slS x lo hi)
    (fun esz x lo hi mx => o_slL esz x lo hi mx)
    (fun n esz x lo hi => o_slA n esz x lo hi)
    (fun off x => o_fadr off x)
    (fun ag n off x => o_fld ag n off x)
    (fun esz x i => o_iadr esz x i)
    (fun len esz x i => o_iadrA len esz x i)
    (fun x i => o_idxS x i)
    (fun ag len esz x i => o_idxA ag len esz x i)
    (fun kk zero ok m k => o_look kk zero ok m k)
    (fun kk m k x => o_mput kk m k x)
    (fun kk m k => o_mdel kk m k)
    (fun k x => o_len k x)
    (fun x l => o_mx x l)
    (fun x l => o_mn x l)
    (fun esz s x => o_app esz s x)
    (fun esz zero s n => o_appz esz zero s n)
    (fun esz d s => o_copy esz d s)
    (fun i x => o_ext i x)
    (fun f args => o_call call f args)
    (fun f args => o_callv call f args)
    (fun x => o_range x)
    (fun _u0 => fun _ _ _ => none)
    (fun t zero ok x => o_tassert t zero ok x)
    (fun i ag n a => o_chk i ag n a)
    (fun i kk zero ok m k => o_chkLook i kk zero ok m k)
    (fun i m => o_chkLen i m)
    (fun i => o_snap i)
    (fun i j => o_chkObj i j)
    (fun s c => o_xcount s c)
    (fun s c => o_xindex s c)
    (fun a b => o_xcmp a b)
    (o_die) k

theorem opvR_eq (k : AK) : opvR k = opv k := by cases k <;> rfl
theorem opcR_eq (call : CallF) (k : AK) : opcR call k = opc call k := by cases k <;> rfl

noncomputable def stepR (call : CallF) (o : AOp) (ls vs : List V) (h : Heap) : Res :=
  match wantedV ls o.g with
  | none => none
  | some false => some (.tuple [], h)
  | some true => opcR call o.k ls vs h

theorem stepR_eq (call : CallF) (o : AOp) (ls vs : List V) (h : Heap) : stepR call o ls vs h = stepO call o ls vs h := by
  unfold stepR stepO
  rw [opcR_eq] <;> rfl

noncomputable def runOpsR (call : CallF) (vs : List V) (l : List AOp) : List V → Heap → Option (List V × Heap) :=
  List.rec (motive := fun _ => List V → Heap → Option (List V × Heap)) (fun ls h => some (ls, h)) (fun o _ ih ls h => match stepR call o ls vs h with
    | some (v, h') => ih (v :: ls) h'
    | none => none) l

theorem runOpsR_eq (call : CallF) (vs : List V) : ∀ (l : List AOp) (ls : List V) (h : Heap), runOpsR call vs l ls h = runOps call l ls vs h
  | [], _, _ => rfl
  | o :: l, ls, h => by
    show (match stepR call o ls vs h with | some (v, h') => runOpsR call vs l (v :: ls) h' | none => none) = _
    rw [stepR_eq]
    unfold runOps
    cases stepO call o ls vs h with
    | none => rfl
    | some r =>
      obtain ⟨v, h'⟩ := r
      exact runOpsR_eq call vs l _ _

noncomputable def x_regR (call : CallF) (ops : List AOp) (outs : List (Nat × Nat)) (vs : List V) (h : Heap) : Out :=
  match runOpsR call vs ops [] h with
  | some (ls, h') => match outsV ls outs vs with
    | some vs' => some (.normal, vs', h')
    | none => none
  | none => none

theorem x_regR_eq (call : CallF) (ops : List AOp) (outs : List (Nat × Nat)) : x_regR call ops outs = x_reg call ops outs := by
  funext vs h
  unfold x_regR x_reg
  rw [runOpsR_eq] <;> rfl

noncomputable def iterR (f : List V → Heap → Out) (n : Nat) : List V → Heap → Out :=
  Nat.rec (motive := fun _ => List V → Heap → Out) (fun _ _ => none) (fun _ ih vs h => match f vs h with
  | some (.normal, vs', h') => ih vs' h'
  | some (.exit i, vs', h') => some (.exit i, vs', h')
  | some (.ret, vs', h') => some (.ret, vs', h')
  | none => none) n

theorem iterR_eq (f : List V → Heap → Out) : ∀ n, iterR f n = iter f n
  | 0 => by funext vs h; rfl
  | n + 1 => by
    funext vs h
    show (match f vs h with | some (.normal, vs', h') => iterR f n vs' h' | some (.exit i, vs', h') => some (.exit i, vs', h') | some (.ret, vs', h') => some (.ret, vs', h') | none => none) = _
    rw [iterR_eq f n]
    rfl

noncomputable def execR (call : CallF) (fuel : Nat) (c : AC) : List V → Heap → Out :=
  AC.rec (motive := fun _ => List V → Heap → Out) (fun vs h => some (.normal, vs, h)) (fun ops outs => x_regR call ops outs) (fun ops s1 s2 outs => x_reg2 call ops s1 s2 outs) (fun _ _ fa fb => x_seq fa fb) (fun c _ _ fa fb => x_cond c fa fb) (fun s a _ => x_coin s a)
    (fun id _ fb => x_block id fb) (fun _ fb => iterR fb fuel) (fun id vs h => some (.exit id, vs, h)) (fun vs h => some (.ret, vs, h)) (fun _ _ => none) c

theorem execR_eq (call : CallF) (fuel : Nat) : ∀ c, execR call fuel c = exec call fuel c
  | .skip => rfl
  | .reg ops outs => x_regR_eq call ops outs
  | .reg2 .. => rfl
  | .seq a b => by
    show x_seq (execR call fuel a) (execR call fuel b) = _
    rw [execR_eq call fuel a, execR_eq call fuel b]
    rfl
  | .cond c a b => by
    show x_cond c (execR call fuel a) (execR call fuel b) = _
    rw [execR_eq call fuel a, execR_eq call fuel b]
    rfl
  | .coin .. => rfl
  | .block id b => by
    show x_block id (execR call fuel b) = _
    rw [execR_eq call fuel b]
    rfl
  | .loop b => by
    show iterR (execR call fuel b) fuel = _
    rw [execR_eq call fuel b, iterR_eq]
    rfl
  | .exit _ => rfl
  | .ret => rfl
  | .stuck => rfl

noncomputable def bodyR (call : CallF) (fuel : Nat) (a : AFunc) (args : List V) (h : Heap) : Option (V × Heap) :=
  match Nat.beq args.length a.nparams with
  | false => none
  | true => match execR call fuel a.code (initV a.slots args) h with
    | some (.exit _, _, _) => none
    | some (_, vs, h') => match resV vs h' a.res with
      | some l => some (packV l, h')
      | none => none
    | none => none

theorem bodyR_eq (call : CallF) (fuel : Nat) (a : AFunc) (args : List V) (h : Heap) : bodyR call fuel a args h = body call fuel a args h := by
  unfold bodyR body
  rw [execR_eq] <;> rfl

noncomputable def runR (T : Nat → Option AFunc) (O : CallF) (n : Nat) : CallF :=
  Nat.rec (motive := fun _ => CallF) (fun _ _ _ => none) (fun n ih f args h => match O f args h with
    | some r => some r
    | none => match T f with
      | some a => bodyR ih n a args h
      | none => none) n

theorem runR_eq (T : Nat → Option AFunc) (O : CallF) : ∀ n, runR T O n = run T O n
  | 0 => by funext f args h; rfl
  | n + 1 => by
    funext f args h
    show (match O f args h with | some r => some r | none => match T f with | some a => bodyR (runR T O n) n a args h | none => none) = _
    rw [runR_eq T O n]
    simp only [bodyR_eq]
    rfl

/-- As 'memo_run'. -/
theorem memo_runR {P : Program} {glob : Nat → Option V} {T : Nat → Option AFunc} {O : CallF} (hm : P.follows .mixedOrders = true) (hg : ∀ g v, glob g = some v → Flat (.vptr v 0)) (hT : TableOk P glob T) (hO : CallOk ⟨P, glob⟩ O) {f : Nat} {args : List V} {u : V} (n d : Nat)
    (ha : V.flatBL args = true) (h : ((runR T O n f args Heap.empty).bind fun r => flatV r.2 d r.1) = some u) : Memo.ok ⟨P, glob⟩ ⟨f, args, u⟩ :=
  memo_run hm hg hT hO n d ha (by rw [← runR_eq]; exact h)

/-! ### With a script -/

def l_res (f : List V → List V → Heap → Res) (ls vs : List V) (h : Heap) (s : Sc) : ResL :=
  match f ls vs h with
  | some (v, h') => some (v, h', s)
  | none => none

noncomputable def l_binR (b : BinOp → Bool) (op : BinOp) (q : EqK) (x y : Opd) (ls vs : List V) (h : Heap) (s : Sc) : ResL :=
  match b op with
  | true => match ev ls vs x, ev ls vs y with
    | some x, some y => match s.script with
      | .val v :: r => some (v, h, ⟨r, .bin op q x y v :: s.log⟩)
      | _ => none
    | _, _ => none
  | false => l_res (o_bin op q x y) ls vs h s

noncomputable def lopcR (b : BinOp → Bool) (call : CallL) (k : AK) : List V → List V → Heap → Sc → ResL :=
  AK.rec (motive := fun _ => List V → List V → Heap → Sc → ResL)
    (fun x => l_res (o_mv x))
    (fun c a b => l_res (o_pick c a b))
    (fun zero => l_res (o_alloc zero))
    (fun size x => l_res (o_box size x))
    (fun zero parts => l_res (o_build zero parts))
    (fun n esz zero parts => l_res (o_bslice n esz zero parts))
    (fun ag n a => l_res (o_load ag n a))
    (fun n a x => l_res (o_store n a x))
    (fun x => l_res (o_nilck x))
    (fun op q x y => l_binR b op q x y)
    (fun op x => l_res (o_un op x))
    (fun k x => l_res (o_toInt k x))
    (fun x => l_res (o_strId x))
    (fun x => l_res (o_toStr x))
    (fun x => l_res (o_toBytes x))
    (fun t x => l_res (o_mkI t x))
    (fun f first caps => l_res (o_mkF f first caps))
    (l_res (o_mkM))
    (fun esz bytes zero l c => l_res (o_mkS esz bytes zero l c))
    (fun x lo hi => l_res (o_slS x lo hi))
    (fun esz x lo hi mx => l_res (o_slL esz x lo hi mx))
    (fun n esz x lo hi => l_res (o_slA n esz x lo hi))
    (fun off x => l_res (o_fadr off x))
    (fun ag n off x => l_res (o_fld ag n off x))
    (fun esz x i => l_res (o_iadr esz x i))
    (fun len esz x i => l_res (o_iadrA len esz x i))
    (fun x i => l_res (o_idxS x i))
    (fun ag len esz x i => l_res (o_idxA ag len esz x i))
    (fun kk zero ok m k => l_res (o_look kk zero ok m k))
    (fun kk m k x => l_res (o_mput kk m k x))
    (fun kk m k => l_res (o_mdel kk m k))
    (fun k x => l_res (o_len k x))
    (fun x l => l_res (o_mx x l))
    (fun x l => l_res (o_mn x l))
    (fun esz s x => l_res (o_app esz s x))
    (fun esz zero s n => l_res (o_appz esz zero s n))
    (fun esz d s => l_res (o_copy esz d s))
    (fun i x => l_res (o_ext i x))
    (fun f args => l_call call f args)
    (fun f args => l_callv call f args)
    (fun x => l_res (o_range x))
    (fun _u0 => l_res (fun _ _ _ => none))
    (fun t zero ok x => l_res (o_tassert t zero ok x))
    (fun i ag n a => l_res (o_chk i ag n a))
    (fun i kk zero ok m k => l_res (o_chkLook i kk zero ok m k))
    (fun i m => l_res (o_chkLen i m))
    (fun i => l_res (o_snap i))
    (fun i j => l_res (o_chkObj i j))
    (fun s c => l_res (o_xcount s c))
    (fun s c => l_res (o_xindex s c))
    (fun a b => l_res (o_xcmp a b))
    (l_res (o_die)) k

theorem lopcR_eq (b : BinOp → Bool) (call : CallL) (k : AK) : lopcR b call k = lopc b call k := by cases k <;> rfl

noncomputable def lstepR (b : BinOp → Bool) (call : CallL) (o : AOp) (ls vs : List V) (h : Heap) (s : Sc) : ResL :=
  match wantedV ls o.g with
  | none => none
  | some false => some (.tuple [], h, s)
  | some true => lopcR b call o.k ls vs h s

theorem lstepR_eq (b : BinOp → Bool) (call : CallL) (o : AOp) (ls vs : List V) (h : Heap) (s : Sc) : lstepR b call o ls vs h s = lstepO b call o ls vs h s := by
  unfold lstepR lstepO
  rw [lopcR_eq] <;> rfl

noncomputable def lrunOpsR (b : BinOp → Bool) (call : CallL) (vs : List V) (l : List AOp) : List V → Heap → Sc → Option (List V × Heap × Sc) :=
  List.rec (motive := fun _ => List V → Heap → Sc → Option (List V × Heap × Sc)) (fun ls h s => some (ls, h, s)) (fun o _ ih ls h s => match lstepR b call o ls vs h s with
    | some (v, h', s') => ih (v :: ls) h' s'
    | none => none) l

theorem lrunOpsR_eq (b : BinOp → Bool) (call : CallL) (vs : List V) : ∀ (l : List AOp) (ls : List V) (h : Heap) (s : Sc), lrunOpsR b call vs l ls h s = lrunOps b call l ls vs h s
  | [], _, _, _ => rfl
  | o :: l, ls, h, s => by
    show (match lstepR b call o ls vs h s with | some (v, h', s') => lrunOpsR b call vs l (v :: ls) h' s' | none => none) = _
    rw [lstepR_eq]
    unfold lrunOps
    cases lstepO b call o ls vs h s with
    | none => rfl
    | some r =>
      obtain ⟨v, h', s'⟩ := r
      exact lrunOpsR_eq b call vs l _ _ _

noncomputable def lx_regR (b : BinOp → Bool) (call : CallL) (ops : List AOp) (outs : List (Nat × Nat)) (vs : List V) (h : Heap) (s : Sc) : OutL :=
  match lrunOpsR b call vs ops [] h s with
  | some (ls, h', s') => match outsV ls outs vs with
    | some vs' => some (.normal, vs', h', s')
    | none => none
  | none => none

theorem lx_regR_eq (b : BinOp → Bool) (call : CallL) (ops : List AOp) (outs : List (Nat × Nat)) : lx_regR b call ops outs = lx_reg b call ops outs := by
  funext vs h s
  unfold lx_regR lx_reg
  rw [lrunOpsR_eq] <;> rfl

noncomputable def literR (f : List V → Heap → Sc → OutL) (n : Nat) : List V → Heap → Sc → OutL :=
  Nat.rec (motive := fun _ => List V → Heap → Sc → OutL) (fun _ _ _ => none) (fun _ ih vs h s => match f vs h s with
  | some (.normal, vs', h', s') => ih vs' h' s'
  | some (.exit i, vs', h', s') => some (.exit i, vs', h', s')
  | some (.ret, vs', h', s') => some (.ret, vs', h', s')
  | none => none) n

theorem literR_eq (f : List V → Heap → Sc → OutL) : ∀ n, literR f n = liter f n
  | 0 => by funext vs h s; rfl
  | n + 1 => by
    funext vs h s
    show (match f vs h s with | some (.normal, vs', h', s') => literR f n vs' h' s' | some (.exit i, vs', h', s') => some (.exit i, vs', h', s') | some (.ret, vs', h', s') => some (.ret, vs', h', s') | none => none) = _
    rw [literR_eq f n]
    rfl

noncomputable def lexecR (z : BinOp → Bool) (call : CallL) (fuel : Nat) (c : AC) : List V → Heap → Sc → OutL :=
  AC.rec (motive := fun _ => List V → Heap → Sc → OutL) (fun vs h s => some (.normal, vs, h, s)) (fun ops outs => lx_regR z call ops outs) (fun ops s1 s2 outs => lx_reg2 z call ops s1 s2 outs) (fun _ _ fa fb => lx_seq fa fb) (fun c _ _ fa fb => lx_cond c fa fb) (fun s a _ => lx_coin s a)
    (fun id _ fb => lx_block id fb) (fun _ fb => literR fb fuel) (fun id vs h s => some (.exit id, vs, h, s)) (fun vs h s => some (.ret, vs, h, s)) (fun _ _ _ => none) c

theorem lexecR_eq (z : BinOp → Bool) (call : CallL) (fuel : Nat) : ∀ c, lexecR z call fuel c = lexec z call fuel c
  | .skip => rfl
  | .reg ops outs => lx_regR_eq z call ops outs
  | .reg2 .. => rfl
  | .seq a b => by
    show lx_seq (lexecR z call fuel a) (lexecR z call fuel b) = _
    rw [lexecR_eq z call fuel a, lexecR_eq z call fuel b]
    rfl
  | .cond c a b => by
    show lx_cond c (lexecR z call fuel a) (lexecR z call fuel b) = _
    rw [lexecR_eq z call fuel a, lexecR_eq z call fuel b]
    rfl
  | .coin .. => rfl
  | .block id b => by
    show lx_block id (lexecR z call fuel b) = _
    rw [lexecR_eq z call fuel b]
    rfl
  | .loop b => by
    show literR (lexecR z call fuel b) fuel = _
    rw [lexecR_eq z call fuel b, literR_eq]
    rfl
  | .exit _ => rfl
  | .ret => rfl
  | .stuck => rfl

noncomputable def lbodyR (z : BinOp → Bool) (call : CallL) (fuel : Nat) (a : AFunc) (args : List V) (h : Heap) (s : Sc) : ResL :=
  match Nat.beq args.length a.nparams with
  | false => none
  | true => match lexecR z call fuel a.code (initV a.slots args) h s with
    | some (.exit _, _, _, _) => none
    | some (_, vs, h', s') => match resV vs h' a.res with
      | some l => some (packV l, h', s')
      | none => none
    | none => none

theorem lbodyR_eq (z : BinOp → Bool) (call : CallL) (fuel : Nat) (a : AFunc) (args : List V) (h : Heap) (s : Sc) : lbodyR z call fuel a args h s = lbody z call fuel a args h s := by
  unfold lbodyR lbody
  rw [lexecR_eq] <;> rfl

noncomputable def runLR (T : Nat → Option AFunc) (A : Nat → Bool) (B : Nat → BinOp → Bool) (O : CallF) (n : Nat) : CallL :=
  Nat.rec (motive := fun _ => CallL) (fun _ _ _ _ => none) (fun n ih f args h s => match A f with
    | true => match s.script with
      | .ans g v :: r => match Nat.beq g f with
        | true => some (v, h, ⟨r, .call f args v :: s.log⟩)
        | false => none
      | _ => none
    | false => match O f args h with
      | some (v, h') => some (v, h', s)
      | none => match T f with
        | some a => lbodyR (B f) ih n a args h s
        | none => none) n

theorem runLR_eq (T : Nat → Option AFunc) (A : Nat → Bool) (B : Nat → BinOp → Bool) (O : CallF) : ∀ n, runLR T A B O n = runL T A B O n
  | 0 => by funext f args h s; rfl
  | n + 1 => by
    funext f args h s
    show (match A f with
    | true => match s.script with
      | .ans g v :: r => match Nat.beq g f with
        | true => some (v, h, (⟨r, .call f args v :: s.log⟩ : Sc))
        | false => none
      | _ => none
    | false => match O f args h with
      | some (v, h') => some (v, h', s)
      | none => match T f with
        | some a => lbodyR (B f) (runLR T A B O n) n a args h s
        | none => none) = _
    rw [runLR_eq T A B O n]
    simp only [lbodyR_eq]
    rfl

noncomputable def runUR (T : Nat → Option AFunc) (A : Nat → Bool) (B : Nat → BinOp → Bool) (O : CallF) (n d f : Nat) (args : List V) (script : List SI) : Option (V × List LE) :=
  match runLR T A B O n f args Heap.empty ⟨script, []⟩ with
  | some (v, h, s) => match flatV h d v with
    | some u => some (u, s.log)
    | none => none
  | none => none

/-- As 'script_run'. -/
theorem script_runR {P : Program} {glob : Nat → Option V} {T : Nat → Option AFunc} {A : Nat → Bool} {B : Nat → BinOp → Bool} {O Q : CallF} (hm : P.follows .mixedOrders = true)
    (hg : ∀ g v, glob g = some v → Flat (.vptr v 0)) (hT : TableOk P glob T) (hO : CallOk ⟨P, glob⟩ O) (hQ : CallOk ⟨P, glob⟩ Q) (hA : ∀ f args h, A f = false → Q f args h = none) (n d : Nat)
    {f : Nat} {args : List V} {script : List SI} {u : V} {log : List LE} (ha : V.flatBL args = true) (e : runUR T A B O n d f args script = some (u, log)) (hv : ∀ e ∈ log, e.ok Q) : Memo.ok ⟨P, glob⟩ ⟨f, args, u⟩ := by
  refine script_run hm hg hT hO hQ hA n d ha (B := B) (script := script) (log := log) ?_ hv
  rw [← e]
  unfold runU runUR
  rw [runLR_eq] <;> rfl

end Am

/-
  From a run of the abstract machine to the close of a statement.
-/
namespace Am
open Go Go.ChangeShapes Go.WideShapes

/-- Of what was there nothing has turned. -/
structure Still (W W' : World) : Prop where
  size : W.heap.size ≤ W'.heap.size
  heap : ∀ b, b < W.heap.size → W'.heap[b]? = W.heap[b]?
  os : W'.os = W.os
  output : W'.output = W.output

theorem Good.still {n : Nat} {E E' : Env} {w w' : World} (h : Good n E w E' w') (hE : ∀ id ver, E.mu id ver = none) : Still w w' :=
  ⟨h.size, fun b hb => (h.frame b hb (owns_none hE b)).1, h.os, h.output⟩

theorem Still.kept {W W' : World} (h : Still W W') (may : MemPlace → Prop) : W.keptBut W' may := by
  refine ⟨h.os, h.output, fun i hi => ?_⟩
  rw [h.heap i hi]
  cases W.heap[i]? with
  | none => rfl
  | some o =>
    cases o with
    | cells c t fr => exact ⟨rfl, rfl, rfl, fun _ _ => rfl⟩
    | map es clock => exact Or.inr ⟨rfl, rfl⟩
    | _ => rfl

theorem Still.frozen {W W' : World} (h : Still W W') {a : Addr} (ha : a.block < W.heap.size) : W'.frozen? a = W.frozen? a := by
  unfold World.frozen?
  rw [h.heap _ ha]

theorem post_of_still {Hd : Type} {enc : TypeId × Value → Hd} {P : Program} {f : Func} {s : ChangeSpec} {apart fresh handsOn again : Bool} {W W' : World} {args : Array Value} {v : Value} {ds gs : List (DataW Hd)} {before pa pv : List MemPlace}
    (hW : DataW.Whole enc P f.params.toList s.vars apart W args.toList ds gs before)
    (hres : ∀ (b : Nat) (sp : Nat → Bool) (hd : Bool), DataW.TrodAll enc P W' b sp hd f.resultTypes.toList (v.resultList f.resultTypes.size) (s.fn Hd (ds ++ gs)).results [])
    (hargs : ∀ sp : Nat → Bool, (∀ p ∈ before, sp p.block = true) → DataW.TrodAll enc P W' 0 sp true f.params.toList args.toList (s.fn Hd (ds ++ gs)).args pa)
    (hvars : ∀ sp : Nat → Bool, (∀ p ∈ before, sp p.block = true) → DataW.TrodVars enc P W' sp s.vars (s.fn Hd (ds ++ gs)).vars pv)
    (hps : before = pa ++ pv) (hst : Still W W')
    (hok : ∀ (j : Nat) (t : TypeId) (r : Value), f.resultTypes[j]? = some t → (v.resultList f.resultTypes.size)[j]? = some r → Value.okWide P W' .any 0 t r) :
    s.post enc P f apart fresh handsOn again W args v W' := by
  have hlt : ∀ p ∈ before, p.block < W.heap.size := fun p hp => hW.lt p hp
  have hold : ∀ p ∈ before, (fun b => decide (b < W.heap.size)) p.block = true := fun p hp => by simpa using hW.lt p hp
  refine ⟨ds, gs, before, [], pa, pv, hW, hres _ _ _, hargs _ hold, hvars _ hold, World.keptBut_mono (fun p hp => ⟨hp, ?_⟩) (hst.kept (· ∈ before)), fun _ => ?_⟩
  · rw [hps, List.mem_append] at hp
    exact Or.inr hp
  · obtain ⟨_, _, _, _, _, hz, hn⟩ := hW
    refine ⟨hok, _, _, ([] ++ pa) ++ pv, ⟨[] ++ pa, pv, trodAll_append (hargs _ (fun _ _ => rfl)) (hres _ _ _), hvars _ (fun _ _ => rfl), rfl, ?_, ?_⟩, ?_⟩
    · intro b off hp
      have hp' : MemPlace.cell b off ∈ before := by rw [hps]; simpa using hp
      rw [hst.frozen (a := ⟨b, off, none⟩) (hlt _ hp')]
      exact hz b off hp'
    · intro ha
      have := hn ha
      rw [hps] at this
      simpa using this
    · intro p hp _
      rw [hps]
      simpa using hp

/-- All memory, as it stands. -/
noncomputable def allIm (W : World) : Nat → Option (Array Value) := fun b =>
  match W.heap[b]? with
  | some (.cells c _ _) => some c
  | _ => none

/-- No objects yet, and all memory stays as it is. -/
noncomputable abbrev E0 (W : World) (t : Nat → Option Value) : Env := ⟨fun _ _ => none, allIm W, t⟩

theorem allIm_some {W : World} {b : Nat} {c : Array Value} (h : allIm W b = some c) : ∃ t fr, W.heap[b]? = some (.cells c t fr) := by
  unfold allIm at h
  split at h
  · rename_i c' t fr hb
    simp only [Option.some.injEq] at h; subst h
    exact ⟨t, fr, hb⟩
  · cases h

theorem allIm_mk {W : World} {b : Nat} {c : Array Value} {t : TypeId} {fr : Nat × Nat} (h : W.heap[b]? = some (.cells c t fr)) : allIm W b = some c := by
  unfold allIm; rw [h]

theorem start_R {C : Ctx} {W : World} {t : Nat → Option Value} (hg : ∀ g v, C.glob g = some v → GlR (E0 W t) g v) : R C (E0 W t) Heap.empty W :=
  ⟨(fun _ _ _ h => by cases h), (fun _ _ _ h => by cases h), (fun _ _ _ _ _ _ h => by cases h), (fun _ _ h => allIm_some h), (fun _ _ _ h => by cases h), hg, (fun id _ => by cases id <;> rfl)⟩

/-- A table of the library's. -/
theorem glob_tab {P : Program} {W : World} {t : Nat → Option Value} {name : String} {k : IntKind} {zs : List Int} {g : Nat} (hn : P.globalNamed name = some g) (h : Go.Lib.TabIs P W name k zs) :
    VR (E0 W t) (.vptr (.agg (zs.map fun z => .int k z)) 0) (.pointer (some ⟨g, 0, none⟩)) := by
  unfold Go.Lib.TabIs World.var? at h
  rw [hn] at h
  simp only [Option.bind_some] at h
  split at h
  · rename_i cs ty fr hb
    simp only [Option.some.injEq] at h; subst h
    have := VR.vptr (E := E0 W t) (v := .agg (zs.map fun z => .int k z)) (off := 0) (b := g) (o := 0) (allIm_mk hb) (by simp [V.cells]) (fun i c x hc hx => by
      simp only [V.cells, List.getElem?_map, Option.map_eq_some_iff] at hc
      obtain ⟨z, hz, rfl⟩ := hc
      simp [hz] at hx
      subst hx
      exact .int k z)
    simpa using this
  · cases h

theorem law_calls {C : Ctx} {f : Nat} {args : List V} {H' : Heap} (h : CallsTo C f args Heap.empty (.bool true) H') {xs : Array Value} {W : World} {t : Nat → Option Value}
    (hg : ∀ g v, C.glob g = some v → GlR (E0 W t) g v)
    (hs : xs.size = args.length) (hrel : ∀ (i : Nat) (a : V) (x : Value), args[i]? = some a → xs[i]? = some x → VR (E0 W t) a x) :
    Calls C.P f xs W fun e w' => e = .returned (.bool true) ∧ Still W w' := by
  refine (h.2.2 (E0 W t) W xs (start_R hg) hs hrel).mono ?_
  rintro e w' ⟨x, E', rfl, _, hv, hG⟩
  cases hv
  exact ⟨rfl, hG.still fun _ _ => rfl⟩

end Am

/-
  Plain data as the row reads it, by value.
-/
namespace Am
open Go

variable {Hd : Type}

mutual
/-- What was read, as the cells of an abstract value. -/
def cellsD : DataW Hd → List V
  | .lit (.bool b) => [.bool b]
  | .lit (.int k n) => [.int k n]
  | .lit (.string s) => [.str s]
  | .nil => [.nils]
  | .slice es _ => [.vec (elemsD es)]
  | .agg ps => cellsDL ps
  | _ => []
def elemsD : List (DataW Hd) → List V
  | [] => []
  | d :: l => .agg (cellsD d) :: elemsD l
def cellsDL : List (DataW Hd) → List V
  | [] => []
  | d :: l => cellsD d ++ cellsDL l
end

/-- Parts, one behind the other, from a place to the end. -/
def consecS : List (Nat × Nat) → Nat → Nat → Bool
  | [], o, n => o == n
  | (a, b) :: l, o, n => a == o && consecS l (o + b) n

/-- Is a type plain data, its parts among 'ts'? -/
def plainT (P : Program) (ts : List TypeId) (t : TypeId) : Bool :=
  match P.underlying t with
  | some .bool => P.cellsOf t == 1
  | some (.int _) => P.cellsOf t == 1
  | some .string => P.cellsOf t == 1
  | some (.slice e) => P.cellsOf t == 1 && ts.contains e && decide (0 < P.cellsOf e)
  | some (.struct fs) => fs.toList.all (fun f => ts.contains f.type) && consecS (fs.toList.map fun f => (f.offset, P.cellsOf f.type)) 0 (P.cellsOf t)
  | some (.array n e) => ts.contains e && consecS ((List.range n).map fun i => (i * P.cellsOf e, P.cellsOf e)) 0 (P.cellsOf t)
  | _ => false

def plainB (P : Program) (ts : List TypeId) : Bool := ts.all (plainT P ts)

theorem get_elemsD : ∀ (ds : List (DataW Hd)) (i : Nat) (v : V), (elemsD ds)[i]? = some v → ∃ d, ds[i]? = some d ∧ v = .agg (cellsD d)
  | [], i, v, h => by simp [elemsD] at h
  | d :: l, 0, v, h => by
    simp only [elemsD, List.getElem?_cons_zero, Option.some.injEq] at h
    exact ⟨d, rfl, h.symm⟩
  | d :: l, i + 1, v, h => by
    simp only [elemsD, List.getElem?_cons_succ] at h
    obtain ⟨d', h1, h2⟩ := get_elemsD l i v h
    exact ⟨d', by simpa using h1, h2⟩

theorem length_elemsD : ∀ (ds : List (DataW Hd)), (elemsD ds).length = ds.length
  | [] => rfl
  | d :: l => by simp [elemsD, length_elemsD l]

theorem cat_cells {E : Env} {cs : List Value} : ∀ (sp : List (Nat × Nat)) (ds : List (DataW Hd)) (o : Nat), consecS sp o cs.length = true → ds.length = sp.length →
    (∀ (i : Nat) (s : Nat × Nat) (d : DataW Hd), sp[i]? = some s → ds[i]? = some d → (cellsD d).length = s.2 ∧ ∀ (j : Nat) (c : V) (v : Value), (cellsD d)[j]? = some c → ((cs.drop s.1).take s.2)[j]? = some v → VR E c v) →
    (cellsDL ds).length + o = cs.length ∧ ∀ (j : Nat) (c : V) (v : Value), (cellsDL ds)[j]? = some c → (cs.drop o)[j]? = some v → VR E c v
  | [], ds, o, h, hl, _ => by
    have : ds = [] := List.eq_nil_of_length_eq_zero hl
    subst this
    simp only [consecS, beq_iff_eq] at h
    simp [cellsDL, h]
  | (a, b) :: sp, ds, o, h, hl, hk => by
    cases ds with
    | nil => cases hl
    | cons d ds =>
      simp only [consecS, Bool.and_eq_true, beq_iff_eq] at h
      obtain ⟨rfl, h⟩ := h
      obtain ⟨k1, k2⟩ := hk 0 (a, b) d rfl rfl
      simp only at k1 k2
      obtain ⟨k3, k4⟩ := cat_cells sp ds (a + b) h (by simpa using hl) (fun i s d' hs hd => hk (i + 1) s d' (by simpa using hs) (by simpa using hd))
      refine ⟨by simp only [cellsDL, List.length_append, k1]; omega, fun j c v hc hv => ?_⟩
      simp only [cellsDL] at hc
      by_cases hj : j < b
      · rw [List.getElem?_append_left (by omega)] at hc
        exact k2 j c v hc (by rw [List.getElem?_take, if_pos hj]; exact hv)
      · rw [List.getElem?_append_right (by omega), k1] at hc
        refine k4 (j - b) c v hc ?_
        rw [List.getElem?_drop] at hv ⊢
        rw [show a + b + (j - b) = a + j from by omega]
        exact hv

theorem trod_array_get {enc : TypeId × Value → Hd} {P : Program} {w : World} {base : Nat} {spare : Nat → Bool} {held : Bool} {fuel : Nat} {t e : TypeId} {m : Nat} {cs : List Value} {x : DataW Hd × List MemPlace}
    (ht : P.underlying t = some (.array m e)) (h : DataW.trod enc P w base spare held fuel t cs = some x) :
    ∃ (xs : List (DataW Hd × List MemPlace)) (n : Nat), fuel = n + 1 ∧ x = (.agg (xs.map (·.1)), xs.flatMap (·.2)) ∧ cs.length = P.cellsOf t ∧ xs.length = m ∧
      ∀ i, i < m → DataW.trod enc P w base spare held n e ((cs.drop (i * P.cellsOf e)).take (P.cellsOf e)) = xs[i]? := by
  cases fuel with
  | zero => simp [DataW.trod] at h
  | succ n =>
    unfold DataW.trod at h
    rw [ht] at h
    split at h <;> simp_all
    obtain ⟨hl, xs, hp, hd⟩ := h
    exact ⟨xs, hd.symm, by simpa using mapM_some_length hp, fun i hi => mapM_some_get hp i i (by simp [hi])⟩

theorem add_off (a : Addr) (n : Nat) (h : a.spot = none) : a.add n = ⟨a.block, a.off + n, none⟩ := by
  unfold Addr.add
  split
  · rename_i h0
    subst h0
    cases a
    simp_all
  · rfl

theorem cell_im {W : World} {b o : Nat} {x : Value} (h : W.cell? ⟨b, o, none⟩ = some x) : ∃ c, allIm W b = some c ∧ c[o]? = some x := by
  unfold World.cell? at h
  split at h
  · rename_i c t fr hb
    simp only [Option.isSome_none] at h
    exact ⟨c, allIm_mk hb, by simpa using h⟩
  · cases h

theorem open_ok {enc : TypeId × Value → Hd} {P : Program} {W : World} {tk : Nat → Option Value} {ts : List TypeId} {base : Nat} {spare : Nat → Bool} {held : Bool} (hp : plainB P ts = true) :
    ∀ (fuel : Nat) (t : TypeId) (cs : List Value) (x : DataW Hd × List MemPlace), t ∈ ts → DataW.trod enc P W base spare held fuel t cs = some x →
    (cellsD x.1).length = P.cellsOf t ∧ cs.length = P.cellsOf t ∧ ∀ (i : Nat) (c : V) (v : Value), (cellsD x.1)[i]? = some c → cs[i]? = some v → VR (E0 W tk) c v
  | 0, t, cs, x, ht, h => by simp [DataW.trod] at h
  | fuel + 1, t, cs, x, ht, h => by
    have hpt := List.all_eq_true.1 hp t ht
    unfold plainT at hpt
    split at hpt
    · rename_i hu
      obtain ⟨b, rfl, rfl⟩ := DataW.trod_bool hu h
      simp only [beq_iff_eq] at hpt
      refine ⟨by simp [cellsD, hpt], by simp [hpt], fun i c v hc hv => ?_⟩
      cases i with
      | zero => simp [cellsD] at hc hv; subst hc; subst hv; exact .bool b
      | succ i => simp [cellsD] at hc
    · rename_i hu
      obtain ⟨n, rfl, rfl, _⟩ := DataW.trod_int hu h
      simp only [beq_iff_eq] at hpt
      refine ⟨by simp [cellsD, hpt], by simp [hpt], fun i c v hc hv => ?_⟩
      cases i with
      | zero => simp [cellsD] at hc hv; subst hc; subst hv; exact .int _ n
      | succ i => simp [cellsD] at hc
    · rename_i hu
      obtain ⟨s, rfl, rfl, _⟩ := DataW.trod_string hu h
      simp only [beq_iff_eq] at hpt
      refine ⟨by simp [cellsD, hpt], by simp [hpt], fun i c v hc hv => ?_⟩
      cases i with
      | zero =>
        simp [cellsD] at hc hv; subst hc; subst hv
        have := VR.str (E := E0 W tk) s.data.toList
        simpa using this
      | succ i => simp [cellsD] at hc
    · rename_i e hu
      simp only [Bool.and_eq_true, beq_iff_eq, List.contains_iff_mem, decide_eq_true_eq] at hpt
      obtain ⟨⟨h1, he⟩, hce⟩ := hpt
      rcases DataW.trod_slice hu h with ⟨rfl, rfl⟩ | ⟨a, len, cap, elems, rest, n, hn, rfl, rfl, hb, hlc, _, hel, hget, _⟩
      · refine ⟨by simp [cellsD, h1], by simp [h1], fun i c v hc hv => ?_⟩
        cases i with
        | zero => simp [cellsD] at hc hv; subst hc; subst hv; exact .nils
        | succ i => simp [cellsD] at hc
      · cases hn
        refine ⟨by simp [cellsD, h1], by simp [h1], fun i c v hc hv => ?_⟩
        cases i with
        | succ i => simp [cellsD] at hc
        | zero =>
          simp [cellsD] at hc hv; subst hc; subst hv
          have hlen : (elemsD (elems.map (·.1))).length = len := by rw [length_elemsD]; simpa using hel
          by_cases hz : len = 0
          · have : elems = [] := List.eq_nil_of_length_eq_zero (by omega)
            subst this
            subst hz
            exact .vec0 a cap
          · -- each element's cells
            have each : ∀ i, i < len → ∃ cs' y, W.cells? base (a.add (i * P.cellsOf e)) (P.cellsOf e) = some cs' ∧ elems[i]? = some y ∧ DataW.trod enc P W base spare held fuel e cs' = some y := by
              intro i hi
              have := hget i hi
              obtain ⟨y, hy⟩ : ∃ y, elems[i]? = some y := ⟨elems[i]'(by omega), by simp [hel, hi]⟩
              rw [hy] at this
              obtain ⟨cs', hc1, hc2⟩ := Option.bind_eq_some_iff.1 this
              exact ⟨cs', y, hc1, hy, hc2⟩
            have hspot : a.spot = none := by
              obtain ⟨cs', y, hc1, _, _⟩ := each 0 (by omega)
              obtain ⟨_, hl, hc⟩ := World.cells?_some hc1
              have h0 := hc 0 hce
              obtain ⟨v0, hv0⟩ : ∃ v0, cs'[0]? = some v0 := ⟨cs'[0]'(by omega), by simp [hl, hce]⟩
              rw [hv0] at h0
              simp only [Addr.add, Nat.zero_mul, if_true] at h0
              unfold World.cell? at h0
              split at h0
              · split at h0
                · cases h0
                · rename_i hs
                  cases hsp : a.spot with
                  | none => rfl
                  | some s => simp [hsp] at hs
              · cases h0
            have cellAt : ∀ i, i < len → ∃ cs' y, elems[i]? = some y ∧ cs'.length = P.cellsOf e ∧ DataW.trod enc P W base spare held fuel e cs' = some y ∧
                ∀ j, j < P.cellsOf e → W.cell? ⟨a.block, a.off + (i * P.cellsOf e + j), none⟩ = cs'[j]? := by
              intro i hi
              obtain ⟨cs', y, hc1, hc2, hc3⟩ := each i hi
              obtain ⟨_, hl, hc⟩ := World.cells?_some hc1
              refine ⟨cs', y, hc2, hl, hc3, fun j hj => ?_⟩
              rw [← hc j hj, add_off a _ hspot, add_off _ _ rfl, Nat.add_assoc]
            obtain ⟨blk, hblk⟩ : ∃ blk, allIm W a.block = some blk := by
              obtain ⟨cs', y, _, hl, _, hc⟩ := cellAt 0 (by omega)
              have h0 := hc 0 hce
              obtain ⟨v0, hv0⟩ : ∃ v0, cs'[0]? = some v0 := ⟨cs'[0]'(by omega), by simp [hl, hce]⟩
              rw [hv0] at h0
              obtain ⟨c, hc, _⟩ := cell_im h0
              exact ⟨c, hc⟩
            have inBlk : ∀ i j (x : Value), W.cell? ⟨a.block, a.off + (i * P.cellsOf e + j), none⟩ = some x → blk[a.off + (i * P.cellsOf e + j)]? = some x := by
              intro i j x hx
              obtain ⟨c, hc, hx'⟩ := cell_im hx
              rw [hblk] at hc; cases hc
              exact hx'
            have key := VR.vec (E := E0 W tk) (es := elemsD (elems.map (·.1))) (b := a.block) (o := a.off) (esz := P.cellsOf e) (cap := cap) (cells := blk) hblk (by rw [hlen]; exact hlc)
              (fun i v hv => by
                obtain ⟨d, hd, rfl⟩ := get_elemsD _ _ _ hv
                have hi : i < len := by
                  rcases Nat.lt_or_ge i len with h | h
                  · exact h
                  · rw [List.getElem?_eq_none (by simp; omega)] at hd; cases hd
                obtain ⟨cs', y, hy, hl, ht', hc⟩ := cellAt i hi
                rw [List.getElem?_map, hy] at hd
                simp only [Option.map_some, Option.some.injEq] at hd
                subst hd
                have ih := open_ok (tk := tk) hp fuel e cs' y he ht'
                refine ⟨by simpa [V.cells] using ih.1, ?_⟩
                obtain ⟨v0, hv0⟩ : ∃ v0, cs'[P.cellsOf e - 1]? = some v0 := ⟨cs'[P.cellsOf e - 1]'(by omega), by simp⟩
                have h0 := hc (P.cellsOf e - 1) (by omega)
                rw [hv0] at h0
                have := inBlk _ _ _ h0
                have := (Array.getElem?_eq_some_iff.1 this).1
                omega)
              (fun i j v c x hv hc hx => by
                obtain ⟨d, hd, rfl⟩ := get_elemsD _ _ _ hv
                have hi : i < len := by
                  rcases Nat.lt_or_ge i len with h | h
                  · exact h
                  · rw [List.getElem?_eq_none (by simp; omega)] at hd; cases hd
                obtain ⟨cs', y, hy, hl, ht', hcell⟩ := cellAt i hi
                rw [List.getElem?_map, hy] at hd
                simp only [Option.map_some, Option.some.injEq] at hd
                subst hd
                have ih := open_ok (tk := tk) hp fuel e cs' y he ht'
                simp only [V.cells] at hc
                have hj : j < P.cellsOf e := by
                  rcases Nat.lt_or_ge j (P.cellsOf e) with h | h
                  · exact h
                  · rw [List.getElem?_eq_none (by rw [ih.1]; exact h)] at hc; cases hc
                obtain ⟨u, hu'⟩ : ∃ u, cs'[j]? = some u := ⟨cs'[j]'(by omega), by simp [hl, hj]⟩
                have h0 := hcell j hj
                rw [hu'] at h0
                have h1 := inBlk _ _ _ h0
                rw [← Nat.add_assoc] at h1
                rw [h1] at hx; cases hx
                exact ih.2.2 j c _ hc hu')
            rw [hlen] at key
            have ea : a = ⟨a.block, a.off, none⟩ := by cases a; simp_all
            rw [ea]
            exact key
    · rename_i fs hu
      simp only [Bool.and_eq_true, List.all_eq_true, List.contains_iff_mem] at hpt
      obtain ⟨hts, hcon⟩ := hpt
      obtain ⟨xs, n, hn, rfl, hl, hxl, hget⟩ := DataW.trod_struct hu h
      cases hn
      have key := cat_cells (E := E0 W tk) (cs := cs) (fs.toList.map fun f => (f.offset, P.cellsOf f.type)) (xs.map (·.1)) 0 (by rw [hl]; exact hcon) (by simp [hxl]) (fun i s d hs hd => by
        simp only [List.getElem?_map, Option.map_eq_some_iff] at hs hd
        obtain ⟨f, hf, rfl⟩ := hs
        obtain ⟨y, hy, rfl⟩ := hd
        have hf' : fs[i]? = some f := by simpa using hf
        have ht' := hget i f hf'
        rw [hy] at ht'
        have ih := open_ok (tk := tk) hp fuel f.type _ y (hts f (List.mem_of_getElem? hf)) ht'
        exact ⟨ih.1, ih.2.2⟩)
      refine ⟨by have := key.1; simp only [Nat.add_zero] at this; simp only [cellsD]; omega, hl, fun i c v hc hv => key.2 i c v (by simpa [cellsD] using hc) (by simpa using hv)⟩
    · rename_i m e hu
      simp only [Bool.and_eq_true, List.contains_iff_mem] at hpt
      obtain ⟨he, hcon⟩ := hpt
      obtain ⟨xs, n, hn, rfl, hl, hxl, hget⟩ := trod_array_get hu h
      cases hn
      have key := cat_cells (E := E0 W tk) (cs := cs) ((List.range m).map fun i => (i * P.cellsOf e, P.cellsOf e)) (xs.map (·.1)) 0 (by rw [hl]; exact hcon) (by simp [hxl]) (fun i s d hs hd => by
        simp only [List.getElem?_map, Option.map_eq_some_iff] at hs hd
        obtain ⟨k, hk, rfl⟩ := hs
        obtain ⟨y, hy, rfl⟩ := hd
        obtain ⟨hi, rfl⟩ : i < m ∧ i = k := by
          obtain ⟨hi, hk'⟩ := List.getElem?_eq_some_iff.1 hk
          simp at hi hk'
          exact ⟨hi, hk'⟩
        have ht' := hget i hi
        rw [hy] at ht'
        have ih := open_ok (tk := tk) hp fuel e _ y he ht'
        exact ⟨ih.1, ih.2.2⟩)
      refine ⟨by have := key.1; simp only [Nat.add_zero] at this; simp only [cellsD]; omega, hl, fun i c v hc hv => key.2 i c v (by simpa [cellsD] using hc) (by simpa using hv)⟩
    · cases hpt

end Am

/-
  Arguments read again behind a call that leaves all memory as it was.
-/
namespace Am
open Go

variable {Hd : Type} {enc : TypeId × Value → Hd} {P : Program} {W W' : World}

theorem Still.sameAt (h : Still W W') {p : MemPlace} (hp : p.block < W.heap.size) : W.sameAt W' p := by
  cases p with
  | cell b off =>
    have hp : b < W.heap.size := hp
    show W'.cell? ⟨b, off, none⟩ = W.cell? ⟨b, off, none⟩
    unfold World.cell?
    rw [h.heap b hp]
  | map b => exact h.heap b hp

theorem trodAll_still (h : Still W W') {base : Nat} {sp : Nat → Bool} {held : Bool} : ∀ {ts : List TypeId} {vs : List Value} {ds : List (DataW Hd)} {ps : List MemPlace},
    DataW.TrodAll enc P W base sp held ts vs ds ps → DataW.TrodAll enc P W' base sp held ts vs ds ps
  | [], [], [], _, k => k
  | _ :: _, _ :: _, _ :: _, _, ⟨a, b, ⟨n, h1⟩, h2, e⟩ => ⟨a, b, ⟨n, DataW.trod_carry n _ _ _ h1 fun p hp => h.sameAt (DataW.trod_lt n _ _ _ h1 p hp)⟩, trodAll_still h h2, e⟩

/-- The arguments' reading again. -/
theorem again (hl : laidOutB P = true) (hm : mapsRowed P = true)
    (hz : ((List.range P.types.size).all fun t => match P.underlying t with | some (.slice e) => decide (0 < P.cellsOf e) | _ => true) = true)
    {ts : List TypeId} (hT : ∀ t ∈ ts, t < P.types.size) {vs : List Value} {ds : List (DataW Hd)} {ps : List MemPlace}
    (h : DataW.TrodAll enc P W 0 (fun _ => true) true ts vs ds ps) (hst : Still W W') {sp : Nat → Bool} (hs : ∀ p ∈ ps, sp p.block = true) :
    DataW.TrodAll enc P W' 0 sp true ts vs ds ps :=
  DataW.TrodAll.respare (kids_rows hl hm) (slices_full_of P hz) hT (trodAll_still hst h) hs

end Am

/-
  strings.Join as an answer to calls: out of the library's contract.
-/
namespace Am
open Go Go.RowKit

variable {C : Ctx} {E : Env} {H : Heap} {w : World}

/-- What turns no elder block. -/
theorem R.below (hR : R C E H w) {w' : World} (hb : Below w.heap.size w w') : R C E H w' ∧ Good H.n E w E w' := by
  refine ⟨⟨hR.dom, fun id ver r h => ?_, hR.sep, fun b c h => ?_, hR.disj, hR.gl, hR.wf⟩, ⟨.refl E, fun b h ho => ⟨hb.block b h, ho⟩, fun _ _ h => h, hb.size, hb.os, hb.tape, hb.output, fun _ _ h => h⟩⟩
  · obtain ⟨o, h1, h2⟩ := hR.obj id ver r h
    exact ⟨o, h1, h2.mono (.refl E) (hb.block _ h2.block)⟩
  · obtain ⟨t, fr, h1⟩ := hR.imm b c h
    exact ⟨t, fr, by rw [hb.block _ (hR.imm_lt h)]; exact h1⟩

theorem cell_at {b o : Nat} {c : Array Value} {t : TypeId} {fr : Nat × Nat} (h : w.heap[b]? = some (.cells c t fr)) : w.cell? ⟨b, o, none⟩ = c[o]? := by
  unfold World.cell?
  rw [h]
  rfl

/-- A slice of one-cell elements, in memory. -/
theorem slice_at (hR : R C E H w) {n : Nat} {X : V} {x : Value} {c : List V} (hs : srcCells H 1 X = some (n, c)) (hX : ∀ s, X ≠ .str s) (hx : VR E X x) :
    c.length = n ∧ ((n = 0 ∧ ∃ a k, x = .slice a 0 k) ∨ ∃ b o k, x = .slice (some ⟨b, o, none⟩) n k ∧ n ≤ k ∧ b < w.heap.size ∧ ∀ (j : Nat) (v : V), c[j]? = some v → ∃ y, w.cell? ⟨b, o + j, none⟩ = some y ∧ VR E v y) := by
  refine ⟨by have := (src_ok hR hs hx).1; omega, ?_⟩
  unfold srcCells at hs
  split at hs
  · simp only [Option.some.injEq, Prod.mk.injEq] at hs
    obtain ⟨rfl, rfl⟩ := hs
    obtain rfl := hx.nils_inv
    exact .inl ⟨rfl, _, _, rfl⟩
  · rename_i es
    split at hs
    · rename_i c' hf
      simp only [Option.some.injEq, Prod.mk.injEq] at hs
      obtain ⟨rfl, rfl⟩ := hs
      cases hx with
      | vec0 a cap => exact .inl ⟨rfl, _, _, rfl⟩
      | @vec _ b o' esz' cap cells h1 h2 h3 h4 =>
        by_cases hne : es = []
        · subst hne; exact .inl ⟨rfl, _, _, rfl⟩
        · have hsz : esz' = 1 := by
            cases es with
            | nil => exact absurd rfl hne
            | cons u es =>
              simp only [flatAll] at hf
              split at hf
              · rename_i hc
                simp only [Bool.and_eq_true, nbeq] at hc
                have := (h3 0 u rfl).1
                omega
              · cases hf
          subst hsz
          obtain ⟨t, fr, hb⟩ := hR.imm b cells h1
          have hrow : ∀ (i : Nat) (v : V), es[i]? = some v → Row E w b (o' + i * 1) v.cells := by
            intro i v hv j u hu
            obtain ⟨g1, g2⟩ := h3 i v hv
            have hj : j < v.cells.length := by
              rcases Nat.lt_or_ge j v.cells.length with h' | h'
              · exact h'
              · simp [List.getElem?_eq_none h'] at hu
            have hlt : o' + i * 1 + j < cells.size := by omega
            exact ⟨cells[o' + i * 1 + j], by rw [cell_of hb]; simp, h4 i j v u _ hv hu (by simp)⟩
          obtain ⟨g1, g2, g3⟩ := flat_row hf hrow
          exact .inr ⟨b, o', cap, rfl, h2, hR.imm_lt h1, fun j v hv => g3 j v hv⟩
    · cases hs
  · exact absurd rfl (hX _)
  · rename_i id off len ver e full
    split at hs
    · rename_i cs cur low hg
      split at hs
      · rename_i hgd
        simp only [Bool.and_eq_true, nbeq] at hgd
        obtain ⟨hgd, rfl⟩ := hgd
        simp only [Option.some.injEq, Prod.mk.injEq] at hs
        obtain ⟨rfl, rfl⟩ := hs
        cases hx with
        | @sl _ _ _ _ _ _ r a cap g1 g2 g3 g4 g5 g6 =>
          obtain ⟨ob, o1, o2⟩ := hR.obj _ _ _ g1
          rw [hg] at o1; cases o1
          have hlt := o2.block
          obtain ⟨rc, t, fr, h0, h1, h2, h3, h4, h5, h6, h7, h8, h9⟩ := o2
          obtain ⟨gl, gv⟩ := good_some hgd
          by_cases hz : len = 0
          · subst hz; exact .inl ⟨rfl, _, _, rfl⟩
          · obtain ⟨rfl, _⟩ := g6 (by omega)
            refine .inr ⟨r.b, off - r.lo, cap, rfl, g4, hlt, fun j v hv => ?_⟩
            rw [List.getElem?_take] at hv
            split at hv
            · rename_i hj
              rw [List.getElem?_drop] at hv
              obtain ⟨y, hy, hvy⟩ := h8 (off + j) v hv (by omega) (by omega) (gv.elim .inl fun g => .inr (by omega))
              exact ⟨y, by rw [cell_at h0, show off - r.lo + j = off + j - r.lo from by omega]; exact hy, hvy⟩
            · cases hv
      · cases hs
    · cases hs
  · cases hs

def strsV : List V → Option (List (List UInt8))
  | [] => some []
  | v :: l => match v with
    | .str s => match strsV l with
      | some r => some (s :: r)
      | none => none
    | _ => none

theorem strsV_get : ∀ {c : List V} {xs : List (List UInt8)}, strsV c = some xs → xs.length = c.length ∧ ∀ (j : Nat) (s : List UInt8), xs[j]? = some s → c[j]? = some (.str s)
  | [], xs, h => by simp only [strsV, Option.some.injEq] at h; subst h; simp
  | v :: l, xs, h => by
    simp only [strsV] at h
    split at h
    · split at h
      · rename_i r hr
        simp only [Option.some.injEq] at h; subst h
        obtain ⟨k1, k2⟩ := strsV_get hr
        refine ⟨by simp [k1], fun j s hs => ?_⟩
        cases j with
        | zero => simp at hs; subst hs; rfl
        | succ j => simpa using k2 j s (by simpa using hs)
      · cases h
    · cases h

/-- A call of strings.Join (function 'f0'). -/
def oJoin (f0 : Nat) : CallF := fun f args h =>
  match Nat.beq f f0 with
  | false => none
  | true => match args with
    | [.str _, _] => none
    | [s, .str sep] => match srcCells h 1 s with
      | some (n, c) => match strsV c with
        | some xs => match Nat.ble n 1048576 && Nat.ble (Go.Lib.join xs sep).length 1048576 with
          | true => some (.str (Go.Lib.join xs sep), h)
          | false => none
        | none => none
      | none => none
    | _ => none

theorem oJoin_ok {f0 : Nat} (he : enters C.P f0 = true)
    (h0 : ∀ (a : Option Addr) (c : Nat) (sep : ByteArray) (w : World), Calls C.P f0 #[.slice a 0 c, .string sep] w fun e w' => e = .returned (.string ⟨#[]⟩) ∧ w' = w)
    (h1 : ∀ (bk o c : Nat) (xs : List ByteArray) (sep : ByteArray) (w : World), (∀ (j : Nat) x, xs[j]? = some x → w.cell? ⟨bk, o + j, none⟩ = some (.string x)) → bk < w.heap.size → xs.length ≤ 140737488355328 → xs.length ≤ c →
      (Go.Lib.join (xs.map (·.data.toList)) sep.data.toList).length ≤ 140737488355328 →
      Calls C.P f0 #[.slice (some ⟨bk, o, none⟩) xs.length c, .string sep] w fun e w' => e = .returned (.string ⟨(Go.Lib.join (xs.map (·.data.toList)) sep.data.toList).toArray⟩) ∧ Below w.heap.size w w') :
    CallOk C (oJoin f0) := by
  intro f args H v H' h
  unfold oJoin at h
  split at h
  · cases h
  rename_i hf
  rw [nbeq] at hf; subst hf
  split at h
  · cases h
  · rename_i s sep hns
    split at h
    case h_2 => cases h
    rename_i n c hs
    split at h
    case h_2 => cases h
    rename_i xs hxs
    split at h
    case h_2 => cases h
    rename_i hb
    simp only [Bool.and_eq_true] at hb
    obtain ⟨hb1, hb2⟩ := hb
    have hb1 := Nat.le_of_ble_eq_true hb1
    have hb2 := Nat.le_of_ble_eq_true hb2
    simp only [Option.some.injEq, Prod.mk.injEq] at h
    obtain ⟨rfl, rfl⟩ := h
    refine ⟨he, Nat.le_refl _, fun E w ys hR hsz hrel => ?_⟩
    obtain ⟨x, y, rfl⟩ : ∃ x y, ys = #[x, y] := by
      rcases ys with ⟨l⟩
      match l, hsz with
      | [x, y], _ => exact ⟨x, y, rfl⟩
    have hx := hrel 0 s x rfl rfl
    have hy := hrel 1 (.str sep) y rfl rfl
    obtain rfl := hy.str_inv
    obtain ⟨hlen, hcase⟩ := slice_at hR hs (fun s' e => hns s' e) hx
    obtain ⟨k1, k2⟩ := strsV_get hxs
    rcases hcase with ⟨hn, a, k, rfl⟩ | ⟨b, o, k, rfl, hk, hbs, hcells⟩
    · have : xs = [] := List.eq_nil_of_length_eq_zero (by omega)
      subst this
      refine (h0 a k _ w).mono ?_
      rintro e w' ⟨rfl, rfl⟩
      exact ⟨_, E, rfl, hR, by rw [Go.Lib.join_nil]; exact .str [], .refl _ _ _⟩
    · have hl : (xs.map fun s => (⟨s.toArray⟩ : ByteArray)).length = n := by simp; omega
      have hmap : (xs.map fun s => (⟨s.toArray⟩ : ByteArray)).map (·.data.toList) = xs := by simp [Function.comp_def]
      have hcall := h1 b o k (xs.map fun s => (⟨s.toArray⟩ : ByteArray)) ⟨sep.toArray⟩ w (fun j z hz => by
        simp only [List.getElem?_map, Option.map_eq_some_iff] at hz
        obtain ⟨s', hs', rfl⟩ := hz
        obtain ⟨y, hy1, hy2⟩ := hcells j _ (k2 j s' hs')
        obtain rfl := hy2.str_inv
        exact hy1) hbs (by omega) (by omega) (by rw [hmap]; exact Nat.le_trans hb2 (by decide))
      rw [hl, hmap] at hcall
      refine hcall.mono ?_
      rintro e w' ⟨rfl, hbel⟩
      obtain ⟨r1, r2⟩ := hR.below hbel
      exact ⟨_, E, rfl, r1, .str _, r2⟩
  · cases h

end Am

/-
  Signs of 64-bit words, and what an addition or a subtraction that overflows looks like.
-/
namespace Am
open Go (IntKind)

def i64 (a : Int) : Prop := -9223372036854775808 ≤ a ∧ a ≤ 9223372036854775807

theorem wrap_bv (u : BitVec 64) : IntKind.i64.wrap (u.toNat : Int) = u.toInt := by
  have h := u.isLt
  simp only [IntKind.wrap, IntKind.signed, IntKind.bits, Bool.true_and, ge_iff_le, decide_eq_true_eq, BitVec.toInt]
  split <;> split <;> omega

theorem ofInt_toInt' (u : BitVec 64) : BitVec.ofInt 64 u.toInt = u := BitVec.ofInt_toInt

theorem toInt_of {a : Int} (h : i64 a) : (BitVec.ofInt 64 a).toInt = a := by
  rw [BitVec.toInt_ofInt]
  unfold i64 at h
  simp only [Int.bmod]
  split <;> omega

theorem msb_of {a : Int} (h : i64 a) : (BitVec.ofInt 64 a).msb = decide (a < 0) := by
  rw [BitVec.msb_eq_toInt, toInt_of h]

theorem wrap_i64 (x : Int) : i64 (IntKind.i64.wrap x) := by
  unfold i64
  simp only [IntKind.wrap, IntKind.signed, IntKind.bits, Bool.true_and, ge_iff_le, decide_eq_true_eq]
  split <;> omega

/-- The sign of (a ^ n) & (b ^ n). -/
theorem signs {a b n : Int} (ha : i64 a) (hb : i64 b) (hn : i64 n) :
    decide (IntKind.i64.wrap ((BitVec.ofInt 64 (IntKind.i64.wrap ((BitVec.ofInt 64 a ^^^ BitVec.ofInt 64 n).toNat : Int)) &&& BitVec.ofInt 64 (IntKind.i64.wrap ((BitVec.ofInt 64 b ^^^ BitVec.ofInt 64 n).toNat : Int))).toNat : Int) < 0) =
    ((decide (a < 0) != decide (n < 0)) && (decide (b < 0) != decide (n < 0))) := by
  rw [wrap_bv, wrap_bv, wrap_bv, ofInt_toInt', ofInt_toInt', ← BitVec.msb_eq_toInt, BitVec.msb_and, BitVec.msb_xor, BitVec.msb_xor, msb_of ha, msb_of hb, msb_of hn]

/-- The sign of (a ^ b) & (c ^ d). -/
theorem signs4 {a b c d : Int} (ha : i64 a) (hb : i64 b) (hc : i64 c) (hd : i64 d) :
    decide (IntKind.i64.wrap ((BitVec.ofInt 64 (IntKind.i64.wrap ((BitVec.ofInt 64 a ^^^ BitVec.ofInt 64 b).toNat : Int)) &&& BitVec.ofInt 64 (IntKind.i64.wrap ((BitVec.ofInt 64 c ^^^ BitVec.ofInt 64 d).toNat : Int))).toNat : Int) < 0) =
    ((decide (a < 0) != decide (b < 0)) && (decide (c < 0) != decide (d < 0))) := by
  rw [wrap_bv, wrap_bv, wrap_bv, ofInt_toInt', ofInt_toInt', ← BitVec.msb_eq_toInt, BitVec.msb_and, BitVec.msb_xor, BitVec.msb_xor, msb_of ha, msb_of hb, msb_of hc, msb_of hd]

theorem add_over {a b : Int} (ha : i64 a) (hb : i64 b) :
    ((decide (a < 0) != decide (IntKind.i64.wrap (a + b) < 0)) && (decide (b < 0) != decide (IntKind.i64.wrap (a + b) < 0))) = decide (a + b < -9223372036854775808 ∨ 9223372036854775807 < a + b) := by
  unfold i64 at *
  simp only [IntKind.wrap, IntKind.signed, IntKind.bits, Bool.true_and, ge_iff_le, decide_eq_true_eq]
  rw [Bool.eq_iff_iff]
  simp only [Bool.and_eq_true, bne_iff_ne, ne_eq, decide_eq_decide, decide_eq_true_eq]
  split <;> omega

theorem sub_over {a b : Int} (ha : i64 a) (hb : i64 b) :
    ((decide (a < 0) != decide (b < 0)) && (decide (a < 0) != decide (IntKind.i64.wrap (a - b) < 0))) = decide (a - b < -9223372036854775808 ∨ 9223372036854775807 < a - b) := by
  unfold i64 at *
  simp only [IntKind.wrap, IntKind.signed, IntKind.bits, Bool.true_and, ge_iff_le, decide_eq_true_eq]
  rw [Bool.eq_iff_iff]
  simp only [Bool.and_eq_true, bne_iff_ne, ne_eq, decide_eq_decide, decide_eq_true_eq]
  split <;> omega

end Am

/-
  Steps of the abstract machine as rules to rewrite by: for contracts at any data.
-/
namespace Am
open Go

section
variable {call : CallF} {fuel : Nat} {ls vs : List V} {h : Heap}

@[simp] theorem nth_zero {α : Type} (a : α) (l : List α) : nth (a :: l) 0 = some a := rfl
@[simp] theorem nth_succ {α : Type} (a : α) (l : List α) (n : Nat) : nth (a :: l) (n + 1) = nth l n := rfl
@[simp] theorem ev_loc (i : Nat) : ev ls vs (.loc i) = nth ls i := rfl
@[simp] theorem ev_var (i : Nat) : ev ls vs (.var i) = nth vs i := rfl
@[simp] theorem ev_cst (v : V) : ev ls vs (.cst v) = some v := rfl

theorem runOps_nil (h : Heap) : runOps call [] ls vs h = some (ls, h) := rfl
theorem runOps_cons {k : AK} {os : List AOp} {v : V} {h' : Heap} (hk : opc call k ls vs h = some (v, h')) : runOps call (⟨none, k⟩ :: os) ls vs h = runOps call os (v :: ls) vs h' := by
  simp only [runOps, stepO, wantedV, hk]

theorem exec_reg {ops : List AOp} {outs : List (Nat × Nat)} {ls' vs' : List V} {h' : Heap} (h1 : runOps call ops [] vs h = some (ls', h')) (h2 : outsV ls' outs vs = some vs') : exec call fuel (.reg ops outs) vs h = some (.normal, vs', h') := by
  simp only [exec, x_reg, h1, h2]

theorem exec_seq {a b : AC} {vs1 : List V} {h1 : Heap} (ha : exec call fuel a vs h = some (.normal, vs1, h1)) : exec call fuel (.seq a b) vs h = exec call fuel b vs1 h1 := by
  simp only [exec, x_seq, ha]

theorem exec_seq_exit {a b : AC} {i : Nat} {vs1 : List V} {h1 : Heap} (ha : exec call fuel a vs h = some (.exit i, vs1, h1)) : exec call fuel (.seq a b) vs h = some (.exit i, vs1, h1) := by
  simp only [exec, x_seq, ha]

theorem exec_seq_ret {a b : AC} {vs1 : List V} {h1 : Heap} (ha : exec call fuel a vs h = some (.ret, vs1, h1)) : exec call fuel (.seq a b) vs h = some (.ret, vs1, h1) := by
  simp only [exec, x_seq, ha]

theorem exec_cond_true {c : Opd} {a b : AC} (hc : ev [] vs c = some (.bool true)) : exec call fuel (.cond c a b) vs h = exec call fuel a vs h := by
  simp only [exec, x_cond, hc]
theorem exec_cond_false {c : Opd} {a b : AC} (hc : ev [] vs c = some (.bool false)) : exec call fuel (.cond c a b) vs h = exec call fuel b vs h := by
  simp only [exec, x_cond, hc]

theorem bin_int {op : BinOp} {q : EqK} {x y : Opd} {k : IntKind} {a b : Int} {v : V} (hx : ev ls vs x = some (.int k a)) (hy : ev ls vs y = some (.int k b)) (h1 : op ≠ .shl) (h2 : op ≠ .shr) (hv : intBin op k a b = some v) : opc call (.bin op q x y) ls vs h = some (v, h) := by
  show o_bin op q x y ls vs h = _
  have : binV op q (.int k a) (.int k b) = some v := by
    cases op <;> first
      | exact absurd rfl h1
      | exact absurd rfl h2
      | (simp only [binV, if_true]; exact hv)
  simp only [o_bin, hx, hy, binK_eq, this, keep]

theorem mv_ok {x : Opd} {v : V} (hx : ev ls vs x = some v) : opc call (.mv x) ls vs h = some (v, h) := by
  show o_mv x ls vs h = _
  simp only [o_mv, hx, keep]

theorem toInt_ok {k j : IntKind} {x : Opd} {n : Int} (hx : ev ls vs x = some (.int j n)) : opc call (.toInt k x) ls vs h = some (.int k (k.wrap n), h) := by
  show o_toInt k x ls vs h = _
  simp only [o_toInt, hx]

/-- A loop whose rounds keep a relation, and whose measure falls, ends by an exit or a return. -/
theorem iter_inv {f : List V → Heap → Out} (I : List V → Heap → Prop) (m : List V → Heap → Nat) (Q : Ex → List V → Heap → Prop)
    (hf : ∀ vs h, I vs h → ∃ ex vs' h', f vs h = some (ex, vs', h') ∧ ((ex = .normal ∧ I vs' h' ∧ m vs' h' < m vs h) ∨ (ex ≠ .normal ∧ Q ex vs' h'))) :
    ∀ (n : Nat) (vs : List V) (h : Heap), I vs h → m vs h < n → ∃ ex vs' h', iter f n vs h = some (ex, vs', h') ∧ ex ≠ .normal ∧ Q ex vs' h'
  | 0, _, _, _, hn => absurd hn (Nat.not_lt_zero _)
  | n + 1, vs, h, hI, hn => by
    obtain ⟨ex, vs1, h1, e, hc⟩ := hf vs h hI
    rcases hc with ⟨rfl, hI1, hm⟩ | ⟨hne, hQ⟩
    · obtain ⟨ex', vs2, h2, e2, h3⟩ := iter_inv I m Q hf n vs1 h1 hI1 (by omega)
      exact ⟨ex', vs2, h2, by simp only [iter, e, e2], h3⟩
    · refine ⟨ex, vs1, h1, ?_, hne, hQ⟩
      cases ex with
      | normal => exact absurd rfl hne
      | exit i => simp only [iter, e]
      | ret => simp only [iter, e]
end

end Am

/-
  Weakest conditions over the abstract machine: rules to step through a function at any data.
-/
namespace Am
open Go
set_option linter.unusedSimpArgs false
set_option linter.unusedVariables false

def CallLe (c c' : CallF) : Prop := ∀ f a h r, c f a h = some r → c' f a h = some r

section mono
variable {call call' : CallF}

theorem opc_mono (hc : CallLe call call') {k : AK} {ls vs : List V} {h : Heap} {r : V × Heap} (e : opc call k ls vs h = some r) : opc call' k ls vs h = some r := by
  cases k with
  | call f args =>
    simp only [opc, o_call] at e ⊢
    cases ha : evs ls vs args with
    | none => rw [ha] at e; cases e
    | some as => rw [ha] at e; exact hc _ _ _ _ e
  | callv f args =>
    simp only [opc, o_callv] at e ⊢
    split at e
    · exact hc _ _ _ _ e
    · cases e
  | _ => exact e

theorem opv_opc {k : AK} {ls vs : List V} {h : Heap} {r : V × Heap} (e : opv k ls vs h = some r) : opc call k ls vs h = some r := by
  cases k <;> first
    | exact e
    | cases e

theorem stepO_mono (hc : CallLe call call') {o : AOp} {ls vs : List V} {h : Heap} {r : V × Heap} (e : stepO call o ls vs h = some r) : stepO call' o ls vs h = some r := by
  simp only [stepO] at e ⊢
  cases hw : wantedV ls o.g with
  | none => rw [hw] at e; cases e
  | some b =>
    rw [hw] at e
    cases b with
    | false => exact e
    | true => exact opc_mono hc e

theorem runOps_mono (hc : CallLe call call') : ∀ {os : List AOp} {ls vs : List V} {h : Heap} {r : List V × Heap}, runOps call os ls vs h = some r → runOps call' os ls vs h = some r
  | [], _, _, _, _, e => e
  | o :: os, ls, vs, h, r, e => by
    simp only [runOps] at e ⊢
    cases hs : stepO call o ls vs h with
    | none => rw [hs] at e; cases e
    | some x =>
      rw [hs] at e
      rw [stepO_mono hc hs]
      exact runOps_mono hc e

theorem iter_mono {f g : List V → Heap → Out} (hf : ∀ vs h r, f vs h = some r → g vs h = some r) : ∀ {n m : Nat} {vs : List V} {h : Heap} {r : Ex × List V × Heap}, n ≤ m → iter f n vs h = some r → iter g m vs h = some r
  | 0, _, _, _, _, _, e => by cases e
  | n + 1, 0, _, _, _, hn, _ => absurd hn (by omega)
  | n + 1, m + 1, vs, h, r, hn, e => by
    simp only [iter] at e ⊢
    cases hs : f vs h with
    | none => rw [hs] at e; cases e
    | some x =>
      obtain ⟨ex, vs1, h1⟩ := x
      rw [hs] at e
      rw [hf _ _ _ hs]
      cases ex with
      | normal => exact iter_mono hf (by omega) e
      | exit i => exact e
      | ret => exact e

theorem exec_mono (hc : CallLe call call') {fuel fuel' : Nat} (hn : fuel ≤ fuel') : ∀ (c : AC) (vs : List V) (h : Heap) (r : Ex × List V × Heap), exec call fuel c vs h = some r → exec call' fuel' c vs h = some r
  | .skip, _, _, _, e => e
  | .reg ops outs, vs, h, r, e => by
    simp only [exec, x_reg] at e ⊢
    cases hs : runOps call ops [] vs h with
    | none => rw [hs] at e; cases e
    | some x => rw [hs] at e; rw [runOps_mono hc hs]; exact e
  | .reg2 ops s1 s2 outs, vs, h, r, e => by
    simp only [exec, x_reg2] at e ⊢
    cases hs : runOps call ops [] vs h with
    | none => rw [hs] at e; cases e
    | some x => rw [hs] at e; rw [runOps_mono hc hs]; exact e
  | .seq a b, vs, h, r, e => by
    simp only [exec, x_seq] at e ⊢
    cases hs : exec call fuel a vs h with
    | none => rw [hs] at e; cases e
    | some x =>
      obtain ⟨ex, vs1, h1⟩ := x
      rw [hs] at e
      rw [exec_mono hc hn a vs h _ hs]
      cases ex with
      | normal => exact exec_mono hc hn b vs1 h1 r e
      | exit i => exact e
      | ret => exact e
  | .cond c a b, vs, h, r, e => by
    simp only [exec, x_cond] at e ⊢
    split at e
    · exact exec_mono hc hn a vs h r e
    · exact exec_mono hc hn b vs h r e
    · cases e
  | .coin s a, vs, h, r, e => e
  | .block id b, vs, h, r, e => by
    simp only [exec, x_block] at e ⊢
    cases hs : exec call fuel b vs h with
    | none => rw [hs] at e; cases e
    | some x => rw [hs] at e; rw [exec_mono hc hn b vs h _ hs]; exact e
  | .loop b, vs, h, r, e => by
    simp only [exec] at e ⊢
    exact iter_mono (fun vs h r => exec_mono hc hn b vs h r) hn e
  | .exit id, _, _, _, e => e
  | .ret, _, _, _, e => e
  | .stuck, _, _, _, e => e

theorem body_mono (hc : CallLe call call') {fuel fuel' : Nat} (hn : fuel ≤ fuel') {a : AFunc} {args : List V} {h : Heap} {r : V × Heap} (e : body call fuel a args h = some r) : body call' fuel' a args h = some r := by
  simp only [body] at e ⊢
  cases hl : Nat.beq args.length a.nparams with
  | false => rw [hl] at e; cases e
  | true =>
    rw [hl] at e
    simp only at e ⊢
    cases hs : exec call fuel a.code (initV a.slots args) h with
    | none => rw [hs] at e; cases e
    | some x => rw [hs] at e; rw [exec_mono hc hn _ _ _ _ hs]; exact e
end mono

theorem run_mono {T : Nat → Option AFunc} {O : CallF} : ∀ {n m : Nat}, n ≤ m → CallLe (run T O n) (run T O m)
  | 0, _, _ => fun _ _ _ _ e => by cases e
  | n + 1, 0, hn => absurd hn (by omega)
  | n + 1, m + 1, hn => fun f a h r e => by
    simp only [run] at e ⊢
    cases ho : O f a h with
    | some x => rw [ho] at e; exact e
    | none =>
      rw [ho] at e
      simp only at e ⊢
      cases ht : T f with
      | none => rw [ht] at e; cases e
      | some af =>
        rw [ht] at e
        exact body_mono (run_mono (by omega)) (by omega) e

abbrev Pred2 := List V → Heap → Prop

def lkE : List (Nat × Pred2) → Nat → Option Pred2
  | [], _ => none
  | (j, P) :: l, i => match Nat.beq i j with
    | true => some P
    | false => lkE l i

/-- What is to hold at each way out. -/
def Post (N : Pred2) (E : List (Nat × Pred2)) (R : Pred2) : Ex → List V → Heap → Prop
  | .normal, vs, h => N vs h
  | .exit i, vs, h => ∃ P, lkE E i = some P ∧ P vs h
  | .ret, vs, h => R vs h

section wp
variable (T : Nat → Option AFunc) (O : CallF)

structure WPx (c : AC) (vs : List V) (h : Heap) (N : Pred2) (E : List (Nat × Pred2)) (R : Pred2) : Prop where
  out : ∃ n ex vs' h', exec (run T O n) n c vs h = some (ex, vs', h') ∧ Post N E R ex vs' h'

structure WPo (os : List AOp) (ls vs : List V) (h : Heap) (Q : List V → Heap → Prop) : Prop where
  out : ∃ n ls' h', runOps (run T O n) os ls vs h = some (ls', h') ∧ Q ls' h'

structure WPc (f : Nat) (args : List V) (h : Heap) (Q : V → Heap → Prop) : Prop where
  out : ∃ n v h', run T O n f args h = some (v, h') ∧ Q v h'
end wp

section rules
variable {T : Nat → Option AFunc} {O : CallF} {vs ls : List V} {h : Heap} {N N' R R' : Pred2} {E : List (Nat × Pred2)} {Q Q' : List V → Heap → Prop}

theorem WPx.mono {c : AC} (k : WPx T O c vs h N E R) (hN : ∀ vs h, N vs h → N' vs h) (hR : ∀ vs h, R vs h → R' vs h) : WPx T O c vs h N' E R' := by
  obtain ⟨n, ex, vs1, h1, e, p⟩ := k
  refine ⟨n, ex, vs1, h1, e, ?_⟩
  cases ex with
  | normal => exact hN _ _ p
  | exit i => exact p
  | ret => exact hR _ _ p

theorem WPc.mono {f : Nat} {args : List V} {Q Q' : V → Heap → Prop} (k : WPc T O f args h Q) (hQ : ∀ v h, Q v h → Q' v h) : WPc T O f args h Q' := by
  obtain ⟨n, v, h1, e, p⟩ := k
  exact ⟨n, v, h1, e, hQ _ _ p⟩

theorem w_skip (k : N vs h) : WPx T O .skip vs h N E R := ⟨0, .normal, vs, h, rfl, k⟩
theorem w_exit {i : Nat} {P : Pred2} (hl : lkE E i = some P) (k : P vs h) : WPx T O (.exit i) vs h N E R := ⟨0, .exit i, vs, h, rfl, P, hl, k⟩
theorem w_ret (k : R vs h) : WPx T O .ret vs h N E R := ⟨0, .ret, vs, h, rfl, k⟩

theorem w_seq {a b : AC} (k : WPx T O a vs h (fun vs h => WPx T O b vs h N E R) E R) : WPx T O (.seq a b) vs h N E R := by
  obtain ⟨n, ex, vs1, h1, e, p⟩ := k
  cases ex with
  | normal =>
    obtain ⟨m, ex2, vs2, h2, e2, p2⟩ := p
    refine ⟨max n m, ex2, vs2, h2, ?_, p2⟩
    have k1 := exec_mono (run_mono (T := T) (O := O) (Nat.le_max_left n m)) (Nat.le_max_left n m) _ _ _ _ e
    have k2 := exec_mono (run_mono (T := T) (O := O) (Nat.le_max_right n m)) (Nat.le_max_right n m) _ _ _ _ e2
    simp only [exec, x_seq, k1, k2]
  | exit i => exact ⟨n, .exit i, vs1, h1, by simp only [exec, x_seq, e], p⟩
  | ret => exact ⟨n, .ret, vs1, h1, by simp only [exec, x_seq, e], p⟩

theorem w_cond_t {c : Opd} {a b : AC} (hc : ev [] vs c = some (.bool true)) (k : WPx T O a vs h N E R) : WPx T O (.cond c a b) vs h N E R := by
  obtain ⟨n, ex, vs1, h1, e, p⟩ := k
  exact ⟨n, ex, vs1, h1, by simp only [exec, x_cond, hc]; exact e, p⟩
theorem w_cond_f {c : Opd} {a b : AC} (hc : ev [] vs c = some (.bool false)) (k : WPx T O b vs h N E R) : WPx T O (.cond c a b) vs h N E R := by
  obtain ⟨n, ex, vs1, h1, e, p⟩ := k
  exact ⟨n, ex, vs1, h1, by simp only [exec, x_cond, hc]; exact e, p⟩
theorem w_cond {c : Opd} {a b : AC} {t : Bool} (hc : ev [] vs c = some (.bool t)) (k1 : t = true → WPx T O a vs h N E R) (k2 : t = false → WPx T O b vs h N E R) : WPx T O (.cond c a b) vs h N E R := by
  cases t with
  | true => exact w_cond_t hc (k1 rfl)
  | false => exact w_cond_f hc (k2 rfl)

theorem w_block {id : Nat} {b : AC} (k : WPx T O b vs h N ((id, N) :: E) R) : WPx T O (.block id b) vs h N E R := by
  obtain ⟨n, ex, vs1, h1, e, p⟩ := k
  cases ex with
  | normal => exact ⟨n, .normal, vs1, h1, by simp only [exec, x_block, e], p⟩
  | ret => exact ⟨n, .ret, vs1, h1, by simp only [exec, x_block, e], p⟩
  | exit i =>
    obtain ⟨P, hl, hp⟩ := p
    simp only [lkE] at hl
    cases hb : Nat.beq i id with
    | true =>
      rw [hb] at hl
      simp only [Option.some.injEq] at hl
      subst hl
      exact ⟨n, .normal, vs1, h1, by simp only [exec, x_block, e, hb], hp⟩
    | false =>
      rw [hb] at hl
      exact ⟨n, .exit i, vs1, h1, by simp only [exec, x_block, e, hb], P, hl, hp⟩

/-- A block, cut: what holds behind it. -/
theorem w_block_cut {id : Nat} {b : AC} (P : Pred2) (k : WPx T O b vs h P ((id, P) :: E) R) (k2 : ∀ vs h, P vs h → N vs h) : WPx T O (.block id b) vs h N E R :=
  (w_block (N := P) k).mono k2 fun _ _ x => x

theorem w_loop_step {b : AC} (k : WPx T O b vs h (fun vs h => WPx T O (.loop b) vs h N E R) E R) : WPx T O (.loop b) vs h N E R := by
  obtain ⟨n, ex, vs1, h1, e, p⟩ := k
  cases ex with
  | normal =>
    obtain ⟨m, ex2, vs2, h2, e2, p2⟩ := p
    refine ⟨max n m + 1, ex2, vs2, h2, ?_, p2⟩
    have k1 := exec_mono (run_mono (T := T) (O := O) (show n ≤ max n m + 1 by omega)) (show n ≤ max n m + 1 by omega) _ _ _ _ e
    simp only [exec] at e2 ⊢
    simp only [iter, k1]
    exact iter_mono (fun vs h r => exec_mono (run_mono (T := T) (O := O) (show m ≤ max n m + 1 by omega)) (show m ≤ max n m + 1 by omega) b vs h r) (by omega) e2
  | exit i =>
    refine ⟨n + 1, .exit i, vs1, h1, ?_, p⟩
    have k1 := exec_mono (run_mono (T := T) (O := O) (show n ≤ n + 1 by omega)) (show n ≤ n + 1 by omega) _ _ _ _ e
    simp only [exec, iter, k1]
  | ret =>
    refine ⟨n + 1, .ret, vs1, h1, ?_, p⟩
    have k1 := exec_mono (run_mono (T := T) (O := O) (show n ≤ n + 1 by omega)) (show n ≤ n + 1 by omega) _ _ _ _ e
    simp only [exec, iter, k1]

/-- A loop: what holds at each round's begin, with what falls. -/
theorem w_loop {b : AC} (I : Nat → Pred2) (hb : ∀ m vs h, I m vs h → WPx T O b vs h (fun vs h => ∃ m', m' < m ∧ I m' vs h) E R) : ∀ (m : Nat) (vs : List V) (h : Heap), I m vs h → WPx T O (.loop b) vs h N E R := by
  intro m
  induction m using Nat.strongRecOn with
  | _ m ih =>
    intro vs h hI
    exact w_loop_step ((hb m vs h hI).mono (fun vs h ⟨m', hm, hI'⟩ => ih m' hm vs h hI') fun _ _ x => x)

theorem w_reg {ops : List AOp} {outs : List (Nat × Nat)} (k : WPo T O ops [] vs h (fun ls h' => ∃ vs', outsV ls outs vs = some vs' ∧ N vs' h')) : WPx T O (.reg ops outs) vs h N E R := by
  obtain ⟨n, ls1, h1, e, vs1, e2, p⟩ := k
  exact ⟨n, .normal, vs1, h1, by simp only [exec, x_reg, e, e2], p⟩

theorem w_reg2 {ops : List AOp} {s1 s2 : AOp} {outs : List (Nat × Nat)} (k : WPo T O ops [] vs h (fun ls h' => ∃ a b v1 h1 v2 h2 vs', target ls vs s1 = some a ∧ target ls vs s2 = some b ∧ Nat.beq a b = false ∧ opv s1.k ls vs h' = some (v1, h1) ∧ opv s2.k ls vs h1 = some (v2, h2) ∧ outsV ls outs vs = some vs' ∧ N vs' h2)) :
    WPx T O (.reg2 ops s1 s2 outs) vs h N E R := by
  obtain ⟨n, ls1, h0, e, a, b, v1, h1, v2, h2, vs1, e1, e2, e3, e4, e5, e6, p⟩ := k
  exact ⟨n, .normal, vs1, h2, by simp only [exec, x_reg2, e, e1, e2, e3, e4, e5, e6], p⟩

theorem w_nil (k : Q ls h) : WPo T O [] ls vs h Q := ⟨0, ls, h, rfl, k⟩

theorem w_op {k : AK} {os : List AOp} {v : V} {h1 : Heap} (e : opv k ls vs h = some (v, h1)) (k1 : WPo T O os (v :: ls) vs h1 Q) : WPo T O (⟨none, k⟩ :: os) ls vs h Q := by
  obtain ⟨n, ls2, h2, e2, p⟩ := k1
  exact ⟨n, ls2, h2, by simp only [runOps, stepO, wantedV, opv_opc (call := run T O n) e]; exact e2, p⟩

theorem w_on {g : Nat × Bool} {k : AK} {os : List AOp} (hg : wantedV ls (some g) = some true) (k1 : WPo T O (⟨none, k⟩ :: os) ls vs h Q) : WPo T O (⟨some g, k⟩ :: os) ls vs h Q := by
  obtain ⟨n, ls2, h2, e2, p⟩ := k1
  exact ⟨n, ls2, h2, by simp only [runOps, stepO, hg]; simpa only [runOps, stepO, wantedV] using e2, p⟩

theorem w_off {g : Nat × Bool} {k : AK} {os : List AOp} (hg : wantedV ls (some g) = some false) (k1 : WPo T O os (.tuple [] :: ls) vs h Q) : WPo T O (⟨some g, k⟩ :: os) ls vs h Q := by
  obtain ⟨n, ls2, h2, e2, p⟩ := k1
  exact ⟨n, ls2, h2, by simp only [runOps, stepO, hg]; exact e2, p⟩

theorem w_call {f : Nat} {args : List Opd} {os : List AOp} {as : List V} (e : evs ls vs args = some as) (k1 : WPc T O f as h (fun v h1 => WPo T O os (v :: ls) vs h1 Q)) : WPo T O (⟨none, .call f args⟩ :: os) ls vs h Q := by
  obtain ⟨n, v, h1, e1, m, ls2, h2, e2, p⟩ := k1
  refine ⟨max n m, ls2, h2, ?_, p⟩
  have a1 := run_mono (T := T) (O := O) (Nat.le_max_left n m) _ _ _ _ e1
  have a2 := runOps_mono (run_mono (T := T) (O := O) (Nat.le_max_right n m)) e2
  simp only [runOps, stepO, wantedV, opc, o_call, e, a1, a2]

theorem w_callv {f : Opd} {g : Nat} {first caps : List V} {args : List Opd} {os : List AOp} {as : List V} (e0 : ev ls vs f = some (.fn g first caps)) (e : evs ls vs args = some as) (k1 : WPc T O g (first ++ as ++ caps) h (fun v h1 => WPo T O os (v :: ls) vs h1 Q)) : WPo T O (⟨none, .callv f args⟩ :: os) ls vs h Q := by
  obtain ⟨n, v, h1, e1, m, ls2, h2, e2, p⟩ := k1
  refine ⟨max n m, ls2, h2, ?_, p⟩
  have a1 := run_mono (T := T) (O := O) (Nat.le_max_left n m) _ _ _ _ e1
  have a2 := runOps_mono (run_mono (T := T) (O := O) (Nat.le_max_right n m)) e2
  simp only [runOps, stepO, wantedV, opc, o_callv, e0, e, a1, a2]

/-- What is to hold behind a function's code, of its result. -/
def Rt (rs : List ARes) (Q : V → Heap → Prop) : Pred2 := fun vs h => ∃ l, resV vs h rs = some l ∧ Q (packV l) h

theorem w_fn {f : Nat} {a : AFunc} {args : List V} {Q : V → Heap → Prop} (hO : O f args h = none) (hT : T f = some a) (hl : Nat.beq args.length a.nparams = true) (k : WPx T O a.code (initV a.slots args) h (Rt a.res Q) [] (Rt a.res Q)) : WPc T O f args h Q := by
  obtain ⟨n, ex, vs1, h1, e, p⟩ := k
  cases ex with
  | exit i => obtain ⟨P, hP, _⟩ := p; cases hP
  | normal =>
    obtain ⟨l, e2, q⟩ := p
    exact ⟨n + 1, packV l, h1, by simp only [run, hO, hT, body, hl, e, e2], q⟩
  | ret =>
    obtain ⟨l, e2, q⟩ := p
    exact ⟨n + 1, packV l, h1, by simp only [run, hO, hT, body, hl, e, e2], q⟩

theorem w_known {f : Nat} {args : List V} {Q : V → Heap → Prop} {v : V} {h1 : Heap} (e : O f args h = some (v, h1)) (q : Q v h1) : WPc T O f args h Q :=
  ⟨1, v, h1, by simp only [run, e], q⟩

/-! ### Comparisons: both ways -/

theorem o_bin_v {op : BinOp} {q : EqK} {x y : Opd} {a b r : V} (hx : ev ls vs x = some a) (hy : ev ls vs y = some b) (e : binV op q a b = some r) : opv (.bin op q x y) ls vs h = some (r, h) := by
  show o_bin op q x y ls vs h = _
  simp only [o_bin, hx, hy, binK_eq, e, keep]

theorem w_bool {k : AK} {os : List AOp} {t : Bool} {h1 : Heap} (e : opv k ls vs h = some (.bool t, h1)) (k1 : t = true → WPo T O os (.bool true :: ls) vs h1 Q) (k2 : t = false → WPo T O os (.bool false :: ls) vs h1 Q) : WPo T O (⟨none, k⟩ :: os) ls vs h Q := by
  cases t with
  | true => exact w_op e (k1 rfl)
  | false => exact w_op e (k2 rfl)

theorem w_lss {q : EqK} {x y : Opd} {os : List AOp} {k : IntKind} {a b : Int} (hx : ev ls vs x = some (.int k a)) (hy : ev ls vs y = some (.int k b)) (k1 : a < b → WPo T O os (.bool true :: ls) vs h Q) (k2 : b ≤ a → WPo T O os (.bool false :: ls) vs h Q) : WPo T O (⟨none, .bin .lss q x y⟩ :: os) ls vs h Q :=
  w_bool (o_bin_v hx hy (by simp only [binV, if_true]; rfl)) (fun e => k1 (of_decide_eq_true e)) (fun e => k2 (by have := of_decide_eq_false e; omega))
theorem w_leq {q : EqK} {x y : Opd} {os : List AOp} {k : IntKind} {a b : Int} (hx : ev ls vs x = some (.int k a)) (hy : ev ls vs y = some (.int k b)) (k1 : a ≤ b → WPo T O os (.bool true :: ls) vs h Q) (k2 : b < a → WPo T O os (.bool false :: ls) vs h Q) : WPo T O (⟨none, .bin .leq q x y⟩ :: os) ls vs h Q :=
  w_bool (o_bin_v hx hy (by simp only [binV, if_true]; rfl)) (fun e => k1 (of_decide_eq_true e)) (fun e => k2 (by have := of_decide_eq_false e; omega))
theorem w_gtr {q : EqK} {x y : Opd} {os : List AOp} {k : IntKind} {a b : Int} (hx : ev ls vs x = some (.int k a)) (hy : ev ls vs y = some (.int k b)) (k1 : b < a → WPo T O os (.bool true :: ls) vs h Q) (k2 : a ≤ b → WPo T O os (.bool false :: ls) vs h Q) : WPo T O (⟨none, .bin .gtr q x y⟩ :: os) ls vs h Q :=
  w_bool (o_bin_v hx hy (by simp only [binV, if_true]; rfl)) (fun e => k1 (by have := of_decide_eq_true e; omega)) (fun e => k2 (by have := of_decide_eq_false e; omega))
theorem w_geq {q : EqK} {x y : Opd} {os : List AOp} {k : IntKind} {a b : Int} (hx : ev ls vs x = some (.int k a)) (hy : ev ls vs y = some (.int k b)) (k1 : b ≤ a → WPo T O os (.bool true :: ls) vs h Q) (k2 : a < b → WPo T O os (.bool false :: ls) vs h Q) : WPo T O (⟨none, .bin .geq q x y⟩ :: os) ls vs h Q :=
  w_bool (o_bin_v hx hy (by simp only [binV, if_true]; rfl)) (fun e => k1 (by have := of_decide_eq_true e; omega)) (fun e => k2 (by have := of_decide_eq_false e; omega))
theorem w_eql {q : EqK} {x y : Opd} {os : List AOp} {k : IntKind} {a b : Int} (hx : ev ls vs x = some (.int k a)) (hy : ev ls vs y = some (.int k b)) (k1 : a = b → WPo T O os (.bool true :: ls) vs h Q) (k2 : a ≠ b → WPo T O os (.bool false :: ls) vs h Q) : WPo T O (⟨none, .bin .eql q x y⟩ :: os) ls vs h Q :=
  w_bool (o_bin_v hx hy (by simp only [binV, if_true]; rfl)) (fun e => k1 (by simpa using e)) (fun e => k2 (by simpa using e))
theorem w_neq {q : EqK} {x y : Opd} {os : List AOp} {k : IntKind} {a b : Int} (hx : ev ls vs x = some (.int k a)) (hy : ev ls vs y = some (.int k b)) (k1 : a ≠ b → WPo T O os (.bool true :: ls) vs h Q) (k2 : a = b → WPo T O os (.bool false :: ls) vs h Q) : WPo T O (⟨none, .bin .neq q x y⟩ :: os) ls vs h Q :=
  w_bool (o_bin_v hx hy (by simp only [binV, if_true]; rfl)) (fun e => k1 (by simpa using e)) (fun e => k2 (by simpa using e))

/-- A sum that fits. -/
theorem w_add {q : EqK} {x y : Opd} {os : List AOp} {k : IntKind} {a b : Int} (hx : ev ls vs x = some (.int k a)) (hy : ev ls vs y = some (.int k b)) (hw : k.wrap (a + b) = a + b) (k1 : WPo T O os (.int k (a + b) :: ls) vs h Q) : WPo T O (⟨none, .bin .add q x y⟩ :: os) ls vs h Q :=
  w_op (o_bin_v hx hy (by simp only [binV, if_true, intBin, hw])) k1
theorem w_sub {q : EqK} {x y : Opd} {os : List AOp} {k : IntKind} {a b : Int} (hx : ev ls vs x = some (.int k a)) (hy : ev ls vs y = some (.int k b)) (hw : k.wrap (a - b) = a - b) (k1 : WPo T O os (.int k (a - b) :: ls) vs h Q) : WPo T O (⟨none, .bin .sub q x y⟩ :: os) ls vs h Q :=
  w_op (o_bin_v hx hy (by simp only [binV, if_true, intBin, hw])) k1

end rules

end Am

/-
  Slices and pointers at any data: what they hold, and the operations that look at them.
-/
namespace Am
open Go
set_option linter.unusedSimpArgs false
set_option linter.unusedVariables false

/-- Nothing elder has turned, but for the objects of a list. -/
def ExtX (S : List Nat) (h h' : Heap) : Prop := h.n ≤ h'.n ∧ ∀ j, j < h.n → j ∉ S → h'.get j = h.get j
abbrev Ext (h h' : Heap) : Prop := ExtX [] h h'

theorem ExtX.refl (S : List Nat) (h : Heap) : ExtX S h h := ⟨Nat.le_refl _, fun _ _ _ => rfl⟩
theorem ExtX.trans {S : List Nat} {a b c : Heap} (h : ExtX S a b) (k : ExtX S b c) : ExtX S a c :=
  ⟨Nat.le_trans h.1 k.1, fun j hj hs => by rw [k.2 j (Nat.lt_of_lt_of_le hj h.1) hs, h.2 j hj hs]⟩
theorem ExtX.alloc {S : List Nat} (h : Heap) (o : Obj) : ExtX S h (h.alloc o) := ⟨Nat.le_succ _, fun j hj _ => by rw [Heap.get_alloc, if_neg (by omega)]⟩
theorem ExtX.set {S : List Nat} (h : Heap) {id : Nat} (hs : id ∈ S) (o : Obj) : ExtX S h (h.set id o) := ⟨Nat.le_refl _, fun j _ hj => by rw [Heap.get_set, if_neg (fun e => by rw [e] at hj; exact hj hs)]⟩
/-- What is new at the begin may turn. -/
theorem ExtX.setNew {S : List Nat} {h0 h : Heap} (k : ExtX S h0 h) {id : Nat} (hs : h0.n ≤ id) (o : Obj) : ExtX S h0 (h.set id o) := ⟨k.1, fun j hj hn => by rw [Heap.get_set, if_neg (by omega)]; exact k.2 j hj hn⟩
theorem ExtX.mono {S S' : List Nat} {a b : Heap} (h : ExtX S a b) (hs : ∀ j ∈ S, j ∈ S') : ExtX S' a b := ⟨h.1, fun j hj hn => h.2 j hj (fun e => hn (hs j e))⟩
theorem ExtX.get {S : List Nat} {a b : Heap} (h : ExtX S a b) {j : Nat} {o : Option Obj} (hj : j < a.n) (hs : j ∉ S) (ho : a.get j = o) : b.get j = o := by rw [h.2 j hj hs, ho]
/-- Elder objects than those of the list, which are all new. -/
theorem ExtX.drop {S : List Nat} {h0 a b : Heap} (h : ExtX [] h0 a) (k : ExtX S a b) (hs : ∀ j ∈ S, h0.n ≤ j) : ExtX [] h0 b :=
  ⟨Nat.le_trans h.1 k.1, fun j hj _ => by rw [k.2 j (Nat.lt_of_lt_of_le hj h.1) (fun e => by have := hs j e; omega), h.2 j hj (by simp)]⟩

theorem ExtX.step {S S' : List Nat} {a b c : Heap} (h : ExtX S a b) (k : ExtX S' b c) (hs : ∀ j ∈ S', j ∈ S ∨ a.n ≤ j) : ExtX S a c :=
  ⟨Nat.le_trans h.1 k.1, fun j hj hn => by
    rw [k.2 j (Nat.lt_of_lt_of_le hj h.1) (fun e => by rcases hs j e with e | e; exact hn e; omega), h.2 j hj hn]⟩

/-- Its object's number is below. -/
def Vin (n : Nat) : V → Prop
  | .sl id _ _ _ _ _ => id < n
  | _ => True

/-- A slice's elements: the cells of each. -/
def RS (h : Heap) (esz : Nat) (v : V) (l : List (List V)) : Prop :=
  srcCells h esz v = some (l.length, l.flatten) ∧ isSl v = true ∧ Vin h.n v ∧ ∀ c ∈ l, c.length = esz

theorem RS.nils (h : Heap) (esz : Nat) : RS h esz .nils [] := ⟨rfl, rfl, trivial, by simp⟩

theorem flatAll_agg (esz : Nat) : ∀ (l : List (List V)), (∀ c ∈ l, c.length = esz ∧ allOne c = true) → flatAll esz (l.map .agg) = some l.flatten
  | [], _ => rfl
  | c :: l, h => by
    obtain ⟨h1, h2⟩ := h c (by simp)
    have ih := flatAll_agg esz l (fun c hc => h c (by simp [hc]))
    simp only [List.map_cons, flatAll, V.cells, h1, h2, ih, Bool.and_true]
    rw [show Nat.beq esz esz = true from nbeq.2 rfl]
    rfl

theorem RS.vec (h : Heap) {esz : Nat} {l : List (List V)} (hl : ∀ c ∈ l, c.length = esz ∧ allOne c = true) : RS h esz (.vec (l.map .agg)) l := by
  refine ⟨?_, rfl, trivial, fun c hc => (hl c hc).1⟩
  simp only [srcCells, flatAll_agg esz l hl, List.length_map]

theorem srcCells_keep {h h' : Heap} {esz : Nat} {v : V} (hk : ∀ id off len ver e f, v = .sl id off len ver e f → h'.get id = h.get id) : srcCells h' esz v = srcCells h esz v := by
  cases v <;> try rfl
  simp only [srcCells, hk _ _ _ _ _ _ rfl]

theorem RS.ext {S : List Nat} {h h' : Heap} {esz : Nat} {v : V} {l : List (List V)} (hE : ExtX S h h') (hr : RS h esz v l) (hs : ∀ id off len ver e f, v = .sl id off len ver e f → id ∉ S) : RS h' esz v l := by
  obtain ⟨h1, h2, h3, h4⟩ := hr
  refine ⟨?_, h2, ?_, h4⟩
  · rw [srcCells_keep (h := h) (fun id off len ver e f hv => ?_)]
    · exact h1
    · subst hv; exact hE.2 _ h3 (hs _ _ _ _ _ _ rfl)
  · cases v <;> try trivial
    exact Nat.lt_of_lt_of_le h3 hE.1

theorem RS.ext0 {h h' : Heap} {esz : Nat} {v : V} {l : List (List V)} (hE : Ext h h') (hr : RS h esz v l) : RS h' esz v l := hr.ext hE (by simp)

theorem flatten_slot {l : List (List V)} {esz : Nat} (hl : ∀ c ∈ l, c.length = esz) : ∀ (j : Nat) (hj : j < l.length), (l.flatten.drop (j * esz)).take esz = l[j] := by
  induction l with
  | nil => intro j hj; cases hj
  | cons a l ih =>
    intro j hj
    have ha := hl a (by simp)
    cases j with
    | zero => simp [← ha]
    | succ j =>
      have := ih (fun c hc => hl c (by simp [hc])) j (by simpa using hj)
      rw [List.flatten_cons, List.getElem_cons_succ, ← this, show (j + 1) * esz = a.length + j * esz by rw [ha, Nat.add_mul]; omega, List.drop_append, List.drop_of_length_le (by omega)]
      simp

theorem flatten_len {l : List (List V)} {esz : Nat} (hl : ∀ c ∈ l, c.length = esz) : l.flatten.length = l.length * esz := by
  induction l with
  | nil => simp
  | cons a l ih =>
    rw [List.flatten_cons, List.length_append, ih (fun c hc => hl c (by simp [hc])), hl a (by simp), List.length_cons, Nat.add_mul]; omega

theorem good_le {c : List V} {cur low ver e e' : Nat} (h : good c cur low ver e = true) (he : e' ≤ e) : good c cur low ver e' = true := by
  unfold good at h ⊢
  split at h
  · rw [nble] at h ⊢; omega
  · simp only [Bool.and_eq_true] at h ⊢
    rw [nblt, nble, nble] at h ⊢
    omega

theorem good_len {c : List V} {cur low ver e : Nat} (h : good c cur low ver e = true) : e ≤ c.length := by
  unfold good at h
  split at h
  · rw [nble] at h; omega
  · simp only [Bool.and_eq_true] at h
    rw [nblt, nble, nble] at h
    omega

/-- Cells that a pointer leads to. -/
def At (h : Heap) (p : V) (c : List V) : Prop :=
  (∃ v o, p = .vptr v o ∧ o ≤ v.cells.length ∧ v.cells.drop o = c) ∨
  ∃ id o ver hi cs cur low, p = .ptr id o ver hi ∧ h.get id = some (.cells cs cur low) ∧ good cs cur low ver (o + c.length) = true ∧ o + c.length ≤ hi ∧ (cs.drop o).take c.length = c

def padd : V → Nat → V
  | .ptr id o ver hi, d => .ptr id (o + d) ver hi
  | .vptr v o, d => .vptr v (o + d)
  | v, _ => v

theorem At.fadr {h : Heap} {p : V} {c : List V} (k : At h p c) {d : Nat} (hd : d ≤ c.length) : At h (padd p d) (c.drop d) := by
  rcases k with ⟨v, o, rfl, h1, h2⟩ | ⟨id, o, ver, hi, cs, cur, low, rfl, h1, h2, h3, h4⟩
  · refine .inl ⟨v, o + d, rfl, ?_, ?_⟩
    · rw [← h2] at hd; simp at hd; omega
    · rw [← h2, List.drop_drop]
  · refine .inr ⟨id, o + d, ver, hi, cs, cur, low, rfl, h1, ?_, ?_, ?_⟩
    · rw [List.length_drop, show o + d + (c.length - d) = o + c.length by omega]; exact h2
    · rw [List.length_drop]; omega
    · rw [List.length_drop, ← List.drop_drop, ← List.drop_take, h4]

section rules
variable {T : Nat → Option AFunc} {O : CallF} {vs ls : List V} {h : Heap} {Q : List V → Heap → Prop} {os : List AOp}

theorem At.one {p x : V} {c : List V} (k : At h p (x :: c)) : rd h false 1 p = some x := by
  rcases k with ⟨v, o, rfl, h1, h2⟩ | ⟨id, o, ver, hi, cs, cur, low, rfl, h1, h2, h3, h4⟩
  · simp only [rd, ldC, nth_eq]
    have : (v.cells.drop o)[0]? = some x := by rw [h2]; rfl
    simpa using this
  · simp only [List.length_cons] at h2 h3 h4
    simp only [rd, h1, ldC, nth_eq]
    have h5 : Nat.ble (o + 1) hi = true := by rw [nble]; omega
    rw [h5, good_le h2 (e' := o + 1) (by omega)]
    simp only [Bool.and_self]
    have : ((cs.drop o).take (c.length + 1))[0]? = some x := by rw [h4]; rfl
    simpa using this

theorem At.agg {p : V} {c : List V} (k : At h p c) {n : Nat} (hn : n ≤ c.length) : rd h true n p = some (.agg (c.take n)) := by
  rcases k with ⟨v, o, rfl, h1, h2⟩ | ⟨id, o, ver, hi, cs, cur, low, rfl, h1, h2, h3, h4⟩
  · have : Nat.ble (o + n) v.cells.length = true := by rw [nble]; rw [← h2] at hn; simp at hn; omega
    simp only [rd, ldC, this, h2]
  · simp only [rd, h1, ldC]
    have h5 : Nat.ble (o + n) hi = true := by rw [nble]; omega
    have h6 := good_len h2
    have h7 : Nat.ble (o + n) cs.length = true := by rw [nble]; omega
    rw [h5, good_le h2 (e' := o + n) (by omega)]
    simp only [Bool.and_self, h7]
    rw [← h4, List.take_take, Nat.min_eq_left hn]

theorem w_fadr {d : Nat} {x : Opd} {p : V} {c : List V} (hx : ev ls vs x = some p) (k : At h p c) (hd : Nat.ble d c.length = true) (k1 : At h (padd p d) (c.drop d) → WPo T O os (padd p d :: ls) vs h Q) : WPo T O (⟨none, .fadr d x⟩ :: os) ls vs h Q := by
  have hd := nble.1 hd
  refine w_op ?_ (k1 (k.fadr hd))
  show o_fadr d x ls vs h = _
  simp only [o_fadr, hx]
  rcases k with ⟨v, o, rfl, _⟩ | ⟨id, o, ver, hi, cs, cur, low, rfl, _⟩ <;> rfl

theorem w_load1 {n : Nat} {a : Opd} {p x : V} {c : List V} (ha : ev ls vs a = some p) (k : At h p (x :: c)) (hn : n = 1) (k1 : WPo T O os (x :: ls) vs h Q) : WPo T O (⟨none, .load false n a⟩ :: os) ls vs h Q := by
  subst hn
  refine w_op ?_ k1
  show o_load false 1 a ls vs h = _
  simp only [o_load, ha, k.one, keep]

theorem w_loadA {n : Nat} {a : Opd} {p : V} {c : List V} (ha : ev ls vs a = some p) (k : At h p c) (hn : Nat.ble n c.length = true) (k1 : WPo T O os (.agg (c.take n) :: ls) vs h Q) : WPo T O (⟨none, .load true n a⟩ :: os) ls vs h Q := by
  have hn := nble.1 hn
  refine w_op ?_ k1
  show o_load true n a ls vs h = _
  simp only [o_load, ha, k.agg hn, keep]

theorem w_len {x : Opd} {v : V} {esz : Nat} {l : List (List V)} (hx : ev ls vs x = some v) (hr : RS h esz v l) (k1 : WPo T O os (.int .i64 (Int.ofNat l.length) :: ls) vs h Q) : WPo T O (⟨none, .len .slice x⟩ :: os) ls vs h Q := by
  refine w_op ?_ k1
  show o_len .slice x ls vs h = _
  obtain ⟨h1, h2, h3, h4⟩ := hr
  simp only [o_len, hx]
  cases v with
  | nils =>
    simp only [srcCells, Option.some.injEq, Prod.mk.injEq] at h1
    rw [← h1.1]; rfl
  | vec es =>
    simp only [srcCells] at h1
    split at h1
    · simp only [Option.some.injEq, Prod.mk.injEq] at h1
      simp only [lenV, keep, h1.1]
    · cases h1
  | sl id off len ver e full =>
    simp only [srcCells] at h1
    split at h1
    · split at h1
      · simp only [Option.some.injEq, Prod.mk.injEq] at h1
        simp only [lenV, keep, h1.1]
      · cases h1
    · cases h1
  | _ => cases h2

theorem flatAll_get {esz : Nat} : ∀ {es : List V} {cs : List V}, flatAll esz es = some cs → ∀ (j : Nat) (hj : j < es.length), (es[j]).cells.length = esz ∧ (cs.drop (j * esz)).take esz = (es[j]).cells
  | [], _, _, j, hj => by cases hj
  | e :: es, cs, h, j, hj => by
    simp only [flatAll] at h
    split at h
    · rename_i hb
      simp only [Bool.and_eq_true, nbeq] at hb
      split at h
      · rename_i r hr
        simp only [Option.some.injEq] at h
        subst h
        cases j with
        | zero => simp [hb.1]
        | succ j =>
          have := flatAll_get hr j (by simpa using hj)
          simp only [List.getElem_cons_succ]
          refine ⟨this.1, ?_⟩
          rw [← this.2, show (j + 1) * esz = e.cells.length + j * esz by rw [hb.1, Nat.add_mul]; omega, List.drop_append, List.drop_of_length_le (by omega)]
          simp
      · cases h
    · cases h

/-- Where a slice's element lies. -/
def slotP (v : V) (j : Nat) : V :=
  match v with
  | .vec es => .vptr (es.getD j .any) 0
  | .sl id off len ver e _ => .ptr id (off + j * e) ver (off + len * e)
  | _ => .nilp

theorem slot_at {esz : Nat} {v : V} {l : List (List V)} {j : Nat} (hr : RS h esz v l) (hj : j < l.length) : At h (slotP v j) l[j] := by
  obtain ⟨h1, h2, h3, h4⟩ := hr
  have hslot := flatten_slot h4 j hj
  have hlj : l[j].length = esz := h4 _ (List.getElem_mem hj)
  cases v with
  | nils =>
    simp only [srcCells, Option.some.injEq, Prod.mk.injEq] at h1
    omega
  | vec es =>
    simp only [srcCells] at h1
    split at h1
    · rename_i cs hcs
      simp only [Option.some.injEq, Prod.mk.injEq] at h1
      obtain ⟨e1, rfl⟩ := h1
      have hje : j < es.length := by omega
      obtain ⟨g1, g2⟩ := flatAll_get hcs j hje
      refine .inl ⟨es[j], 0, by simp [slotP, List.getD, hje], Nat.zero_le _, ?_⟩
      rw [List.drop_zero, ← g2, hslot]
    · cases h1
  | sl id off len ver e full =>
    simp only [srcCells] at h1
    split at h1
    · rename_i c cur low hg
      split at h1
      · rename_i hgd
        simp only [Bool.and_eq_true, nbeq] at hgd
        obtain ⟨hgd, rfl⟩ := hgd
        simp only [Option.some.injEq, Prod.mk.injEq] at h1
        obtain ⟨e1, e2⟩ := h1
        have hm : j * e + e ≤ len * e := by
          have := Nat.mul_le_mul_right e (show j + 1 ≤ len by omega)
          rw [Nat.add_mul] at this; omega
        refine .inr ⟨id, off + j * e, ver, off + len * e, c, cur, low, rfl, hg, ?_, ?_, ?_⟩
        · rw [hlj]; exact good_le hgd (by omega)
        · rw [hlj]; omega
        · rw [hlj]
          rw [← e2, List.drop_take, List.take_take, List.drop_drop, Nat.min_eq_left (by omega)] at hslot
          exact hslot
      · cases h1
    · cases h1
  | _ => cases h2

/-- As 'w_iadr', with where it lies told. -/
theorem w_iadrS {esz : Nat} {x i : Opd} {v : V} {l : List (List V)} {k : IntKind} {j : Nat} (hx : ev ls vs x = some v) (hi : ev ls vs i = some (.int k (Int.ofNat j))) (hr : RS h esz v l) (hj : j < l.length)
    (k1 : WPo T O os (slotP v j :: ls) vs h Q) : WPo T O (⟨none, .iadr esz x i⟩ :: os) ls vs h Q := by
  obtain ⟨h1, h2, h3, h4⟩ := hr
  cases v with
  | nils =>
    simp only [srcCells, Option.some.injEq, Prod.mk.injEq] at h1
    omega
  | vec es =>
    simp only [srcCells] at h1
    split at h1
    · rename_i cs hcs
      simp only [Option.some.injEq, Prod.mk.injEq] at h1
      obtain ⟨e1, rfl⟩ := h1
      have hje : j < es.length := by omega
      obtain ⟨g1, g2⟩ := flatAll_get hcs j hje
      refine w_op ?_ k1
      show o_iadr esz x i ls vs h = _
      have hn : nth es j = some es[j] := by rw [nth_eq, List.getElem?_eq_getElem hje]
      simp only [o_iadr, hx, hi, idxNat, natOf, nblt.2 hje, hn, nbeq.2 g1, slotP, List.getD, List.getElem?_eq_getElem hje, Option.getD_some]
    · cases h1
  | sl id off len ver e full =>
    simp only [srcCells] at h1
    split at h1
    · split at h1
      · rename_i hgd
        simp only [Bool.and_eq_true, nbeq] at hgd
        obtain ⟨hgd, rfl⟩ := hgd
        simp only [Option.some.injEq, Prod.mk.injEq] at h1
        obtain ⟨e1, e2⟩ := h1
        refine w_op ?_ k1
        show o_iadr e x i ls vs h = _
        simp only [o_iadr, hx, hi, idxNat, natOf, nblt.2 (show j < len by omega), show Nat.beq e e = true from nbeq.2 rfl, slotP]
      · cases h1
    · cases h1
  | _ => cases h2

theorem w_iadr {esz : Nat} {x i : Opd} {v : V} {l : List (List V)} {k : IntKind} {j : Nat} (hx : ev ls vs x = some v) (hi : ev ls vs i = some (.int k (Int.ofNat j))) (hr : RS h esz v l) (hj : j < l.length)
    (k1 : ∀ p, At h p l[j] → WPo T O os (p :: ls) vs h Q) : WPo T O (⟨none, .iadr esz x i⟩ :: os) ls vs h Q :=
  w_iadrS hx hi hr hj (k1 _ (slot_at hr hj))

end rules

end Am

/-
  Slices that a function owns, and objects of its own: literals, appends, boxes, stores.
-/
namespace Am
open Go
set_option linter.unusedSimpArgs false
set_option linter.unusedVariables false

def slIds : V → List Nat
  | .sl id _ _ _ _ _ => [id]
  | _ => []

/-- A slice behind which may be appended. -/
def Ow (h : Heap) (esz : Nat) (v : V) (l : List (List V)) : Prop :=
  RS h esz v l ∧ (v = .nils ∨ ∃ id off len ver full cs low, v = .sl id off len ver esz full ∧ h.get id = some (.cells cs ver low))

theorem Ow.rs {h : Heap} {esz : Nat} {v : V} {l : List (List V)} (k : Ow h esz v l) : RS h esz v l := k.1
theorem Ow.nils (h : Heap) (esz : Nat) : Ow h esz .nils [] := ⟨RS.nils h esz, .inl rfl⟩

theorem Ow.ext {S : List Nat} {h h' : Heap} {esz : Nat} {v : V} {l : List (List V)} (hE : ExtX S h h') (hr : Ow h esz v l) (hs : ∀ j ∈ slIds v, j ∉ S) : Ow h' esz v l := by
  obtain ⟨h1, h2⟩ := hr
  refine ⟨h1.ext hE (fun id off len ver e f hv => hs id (by rw [hv]; simp [slIds])), ?_⟩
  rcases h2 with h2 | ⟨id, off, len, ver, full, cs, low, rfl, hg⟩
  · exact .inl h2
  · exact .inr ⟨id, off, len, ver, full, cs, low, rfl, hE.get h1.2.2.1 (hs id (by simp [slIds])) hg⟩

theorem Ow.ext0 {h h' : Heap} {esz : Nat} {v : V} {l : List (List V)} (hE : Ext h h') (hr : Ow h esz v l) : Ow h' esz v l := hr.ext hE (by simp)

theorem RS.lt {h : Heap} {esz : Nat} {v : V} {l : List (List V)} (k : RS h esz v l) : ∀ j ∈ slIds v, j < h.n := by
  intro j hj
  cases v <;> simp [slIds] at hj
  subst hj
  exact k.2.2.1

theorem good_refl {c : List V} {cur low e : Nat} (he : e ≤ c.length) : good c cur low cur e = true := by
  unfold good
  rw [show Nat.beq cur cur = true from nbeq.2 rfl]
  exact nble.2 he

/-- A new object's slice. -/
theorem Ow.new {h : Heap} {esz : Nat} {l : List (List V)} (hl : ∀ c ∈ l, c.length = esz) (f : Bool) : Ow (h.alloc (.cells l.flatten 0 big)) esz (.sl h.n 0 l.length 0 esz f) l := by
  have hg : (h.alloc (.cells l.flatten 0 big)).get h.n = some (.cells l.flatten 0 big) := by rw [Heap.get_alloc, if_pos rfl]
  have hlen := flatten_len hl
  refine ⟨⟨?_, rfl, ?_, hl⟩, ?_⟩
  · simp only [srcCells, hg]
    rw [good_refl (by omega), show Nat.beq esz esz = true from nbeq.2 rfl]
    simp only [List.drop_zero, Bool.and_self, Option.some.injEq, Prod.mk.injEq, true_and]
    rw [List.take_of_length_le (by omega)]
  · show h.n < h.n + 1
    omega
  · exact .inr ⟨_, _, _, _, _, _, _, rfl, hg⟩

theorem roomy_iff {n : Nat} : roomy n = true ↔ n ≤ 4294967296 := by unfold roomy; exact nble

theorem appV_ok {h : Heap} {esz : Nat} {v : V} {l l2 : List (List V)} (ho : Ow h esz v l) (h2 : ∀ c ∈ l2, c.length = esz) (hroom : l.length + l2.length ≤ 4294967296) :
    ∃ v' h', appV h esz v l2.length l2.flatten = some (v', h') ∧ Ow h' esz v' (l ++ l2) ∧ ExtX (slIds v) h h' ∧ (∀ j ∈ slIds v', j ∈ slIds v ∨ h.n ≤ j) := by
  cases l2 with
  | nil =>
    refine ⟨v, h, ?_, by simpa using ho, ExtX.refl _ _, fun j hj => .inl hj⟩
    rcases ho.2 with rfl | ⟨id, off, len, ver, full, cs, low, rfl, hg⟩ <;> rfl
  | cons a r =>
    have hlen2 := flatten_len h2
    have hlen1 := flatten_len ho.1.2.2.2
    have hall : ∀ c ∈ l ++ a :: r, c.length = esz := by
      intro c hc
      rcases List.mem_append.1 hc with hc | hc
      · exact ho.1.2.2.2 c hc
      · exact h2 c hc
    rcases ho.2 with rfl | ⟨id, off, len, ver, full, cs, low, rfl, hg⟩
    · have hl0 : l = [] := by
        have := ho.1.1
        simp only [srcCells, Option.some.injEq, Prod.mk.injEq] at this
        exact List.eq_nil_of_length_eq_zero this.1.symm
      subst hl0
      refine ⟨.sl h.n 0 (a :: r).length 0 esz false, h.alloc (.cells (a :: r).flatten 0 big), ?_, ?_, ?_, ?_⟩
      · simp only [appV, List.length_cons]
        rw [roomy_iff.2 (by simp at hroom; omega)]
      · exact Ow.new h2 false
      · exact ExtX.alloc _ _
      · intro j hj; simp [slIds] at hj; exact .inr (by omega)
    · cases full with
      | true =>
        obtain ⟨e1, _, e3, _⟩ := ho.1
        simp only [srcCells, hg] at e1
        split at e1
        · rename_i hgd
          simp only [Bool.and_eq_true, nbeq] at hgd
          simp only [Option.some.injEq, Prod.mk.injEq] at e1
          obtain ⟨rfl, e1⟩ := e1
          refine ⟨.sl h.n 0 (l ++ a :: r).length 0 esz false, h.alloc (.cells (l ++ a :: r).flatten 0 big), ?_, ?_, ?_, ?_⟩
          · simp only [appV, List.length_cons, hg, hgd.1, Bool.and_true]
            rw [roomy_iff.2 (by simp at hroom; omega), show Nat.beq esz esz = true from nbeq.2 rfl]
            simp only [Bool.and_self, Bool.true_and, e1]
            simp
          · exact Ow.new hall false
          · exact ExtX.alloc _ _
          · intro j hj; simp [slIds] at hj; exact .inr (by omega)
        · cases e1
      | false =>
        obtain ⟨e1, _, e3, _⟩ := ho.1
        simp only [srcCells, hg] at e1
        split at e1
        · rename_i hgd
          simp only [Bool.and_eq_true, nbeq] at hgd
          simp only [Option.some.injEq, Prod.mk.injEq] at e1
          obtain ⟨rfl, e1⟩ := e1
          have hgl := good_len hgd.1
          have hv : Nat.beq ver ver = true := nbeq.2 rfl
          have he : Nat.beq esz esz = true := nbeq.2 rfl
          have hidn : id < h.n := e3
          by_cases hend : off + l.length * esz = cs.length
          · refine ⟨.sl id off (l.length + (a :: r).length) (ver + 1) esz false, h.set id (.cells (cs ++ (a :: r).flatten) (ver + 1) low), ?_, ?_, ?_, ?_⟩
            · simp only [appV, List.length_cons, hg, hgd.1, he, hv, nbeq.2 hend, Bool.and_self, Bool.and_true]
              rw [roomy_iff.2 (by simp at hroom; omega)]
              rfl
            · have hg' : (h.set id (.cells (cs ++ (a :: r).flatten) (ver + 1) low)).get id = some (.cells (cs ++ (a :: r).flatten) (ver + 1) low) := by rw [Heap.get_set, if_pos rfl]
              refine ⟨⟨?_, rfl, hidn, hall⟩, .inr ⟨_, _, _, _, _, _, _, rfl, hg'⟩⟩
              simp only [srcCells, hg', he]
              rw [good_refl (by rw [List.length_append, hlen2, Nat.add_mul]; omega)]
              simp only [Bool.and_self, Option.some.injEq, Prod.mk.injEq, List.length_append, true_and]
              rw [List.flatten_append, ← e1, List.drop_append_of_le_length (by omega), List.take_append, List.length_drop, Nat.add_mul]
              have hx : l.length * esz + (a :: r).length * esz - (cs.length - off) = (a :: r).length * esz := by omega
              rw [hx]
              congr 1
              · rw [List.take_of_length_le (by simp; omega), List.take_of_length_le (by simp; omega)]
              · rw [List.take_of_length_le (by rw [hlen2]; omega)]
            · exact ExtX.set _ (by simp [slIds]) _
            · intro j hj; simp [slIds] at hj; exact .inl (by simp [slIds, hj])
          · have hend' : Nat.beq (off + l.length * esz) cs.length = false := by
              cases hb : Nat.beq (off + l.length * esz) cs.length with
              | false => rfl
              | true => exact absurd (nbeq.1 hb) hend
            refine ⟨.sl id off (l.length + (a :: r).length) (ver + 1) esz false, h.set id (.cells (cs.take (off + l.length * esz) ++ (a :: r).flatten) (ver + 1) (minN low (off + l.length * esz))), ?_, ?_, ?_, ?_⟩
            · simp only [appV, List.length_cons, hg, hgd.1, he, hv, hend', Bool.and_self, Bool.and_true]
              rw [roomy_iff.2 (by simp at hroom; omega)]
              rfl
            · have hg' : (h.set id (.cells (cs.take (off + l.length * esz) ++ (a :: r).flatten) (ver + 1) (minN low (off + l.length * esz)))).get id = some (.cells (cs.take (off + l.length * esz) ++ (a :: r).flatten) (ver + 1) (minN low (off + l.length * esz))) := by rw [Heap.get_set, if_pos rfl]
              refine ⟨⟨?_, rfl, hidn, hall⟩, .inr ⟨_, _, _, _, _, _, _, rfl, hg'⟩⟩
              simp only [srcCells, hg', he]
              have htl : (cs.take (off + l.length * esz)).length = off + l.length * esz := by simp; omega
              rw [good_refl (by rw [List.length_append, htl, hlen2, Nat.add_mul]; omega)]
              simp only [Bool.and_self, Option.some.injEq, Prod.mk.injEq, List.length_append, true_and]
              rw [List.flatten_append, ← e1, List.drop_append_of_le_length (by rw [htl]; omega), List.take_append, List.length_drop, htl, Nat.add_mul]
              have hx : l.length * esz + (a :: r).length * esz - (off + l.length * esz - off) = (a :: r).length * esz := by omega
              rw [hx]
              congr 1
              · rw [List.take_of_length_le (by simp; omega), List.drop_take]
                congr 1; omega
              · rw [List.take_of_length_le (by rw [hlen2]; omega)]
            · exact ExtX.set _ (by simp [slIds]) _
            · intro j hj; simp [slIds] at hj; exact .inl (by simp [slIds, hj])
        · cases e1

/-- From a slice to one that came of it: elder things stay, but for its own object. -/
def Fr (h0 : Heap) (v0 : V) (h : Heap) (v : V) : Prop := ExtX (slIds v0) h0 h ∧ ∀ j ∈ slIds v, j ∈ slIds v0 ∨ h0.n ≤ j

theorem Fr.refl (h : Heap) (v : V) : Fr h v h v := ⟨ExtX.refl _ _, fun _ h => .inl h⟩
theorem Fr.trans {a b c : Heap} {u v w : V} (h : Fr a u b v) (k : Fr b v c w) : Fr a u c w := by
  refine ⟨⟨Nat.le_trans h.1.1 k.1.1, fun j hj hn => ?_⟩, fun j hj => ?_⟩
  · rw [k.1.2 j (Nat.lt_of_lt_of_le hj h.1.1) (fun e => ?_), h.1.2 j hj hn]
    rcases h.2 j e with e | e
    · exact hn e
    · omega
  · rcases k.2 j hj with e | e
    · exact h.2 j e
    · have := h.1.1; exact .inr (by omega)
theorem Fr.of_ext {h h' : Heap} (v : V) (hE : Ext h h') : Fr h v h' v := ⟨hE.mono (by simp), fun _ h => .inl h⟩
theorem Fr.ext0 {h h' : Heap} {v : V} (k : Fr h .nils h' v) : Ext h h' := k.1

section rules
variable {T : Nat → Option AFunc} {O : CallF} {vs ls : List V} {h : Heap} {Q : List V → Heap → Prop} {os : List AOp}

theorem w_app {esz : Nat} {s x : Opd} {v xv : V} {l l2 : List (List V)} (hs : ev ls vs s = some v) (hx : ev ls vs x = some xv) (ho : Ow h esz v l) (hr : RS h esz xv l2) (hroom : l.length + l2.length ≤ 4294967296)
    (k1 : ∀ v' h', Ow h' esz v' (l ++ l2) → Fr h v h' v' → WPo T O os (v' :: ls) vs h' Q) : WPo T O (⟨none, .app esz s x⟩ :: os) ls vs h Q := by
  obtain ⟨v', h', a1, a2, a3, a4⟩ := appV_ok ho hr.2.2.2 hroom
  refine w_op ?_ (k1 v' h' a2 ⟨a3, a4⟩)
  show o_app esz s x ls vs h = _
  simp only [o_app, hs, hx, hr.1, a1]

theorem w_bslice {n esz : Nat} {zero : List V} {parts : List (Nat × Nat × Opd)} {ps : List (Nat × Nat × V)} {cs : List V} (l : List (List V)) (hp : evp ls vs parts = some ps) (hf : fillP (rep n zero) ps = some cs) (hc : cs = l.flatten) (hn : l.length = n) (hl : ∀ c ∈ l, c.length = esz)
    (k1 : ∀ v' h', Ow h' esz v' l → Fr h .nils h' v' → WPo T O os (v' :: ls) vs h' Q) : WPo T O (⟨none, .bslice n esz zero parts⟩ :: os) ls vs h Q := by
  subst hc hn
  refine w_op (v := .sl h.n 0 l.length 0 esz true) (h1 := h.alloc (.cells l.flatten 0 big)) ?_ (k1 _ _ (Ow.new hl true) ⟨ExtX.alloc _ _, fun j hj => by simp [slIds] at hj; exact .inr (by omega)⟩)
  show o_bslice l.length esz zero parts ls vs h = _
  simp only [o_bslice, hp, hf]

def plainK : AK → Bool
  | .build _ _ => false
  | .mx _ _ => false
  | .mn _ _ => false
  | _ => true

/-- An operation that turns no memory, and puts nothing together. -/
theorem w_opk {k : AK} {v : V} (hp : plainK k = true) (e : opv k ls vs h = some (v, h)) (k1 : WPo T O os (v :: ls) vs h Q) : WPo T O (⟨none, k⟩ :: os) ls vs h Q := w_op e k1

theorem over_all : ∀ {a b : List V}, a.length = b.length → over a b = a
  | [], [], _ => rfl
  | x :: a, y :: b, h => by simp only [over]; rw [over_all (by simpa using h)]
  | [], _ :: _, h => by cases h
  | _ :: _, [], h => by cases h

/-- A literal of one element. -/
theorem w_lit1 {esz : Nat} {zero : List V} {x : Opd} {v0 : V} (hx : ev ls vs x = some v0) (hl : v0.cells.length = esz) (hz : zero.length = esz) (h1 : allOne v0.cells = true)
    (k1 : ∀ v' h', Ow h' esz v' [v0.cells] → Fr h .nils h' v' → WPo T O os (v' :: ls) vs h' Q) : WPo T O (⟨none, .bslice 1 esz zero [(0, esz, x)]⟩ :: os) ls vs h Q := by
  refine w_bslice (ps := [(0, esz, v0)]) (cs := v0.cells) [v0.cells] ?_ ?_ (by simp) rfl (by simp [hl]) k1
  · simp only [evp, hx]
  · have e1 : rep 1 zero = zero := by simp [rep]
    have e2 : Nat.ble (0 + esz) zero.length = true := by rw [hz, nble]; omega
    simp only [fillP, e1, nbeq.2 hl, e2, h1, Bool.and_self, splice, over_all (hl.trans hz.symm)]

/-- One element behind a slice. -/
theorem w_push {esz : Nat} {zero : List V} {x s : Opd} {v0 v : V} {l : List (List V)} (hx : ev ls vs x = some v0) (hl : v0.cells.length = esz) (hz : zero.length = esz) (h1 : allOne v0.cells = true)
    (hs : ∀ y, ev (y :: ls) vs s = some v) (ho : Ow h esz v l) (hroom : l.length + 1 ≤ 4294967296)
    (k1 : ∀ a v' h', Ow h' esz v' (l ++ [v0.cells]) → Fr h v h' v' → WPo T O os (v' :: a :: ls) vs h' Q) : WPo T O (⟨none, .bslice 1 esz zero [(0, esz, x)]⟩ :: ⟨none, .app esz s (.loc 0)⟩ :: os) ls vs h Q := by
  refine w_lit1 hx hl hz h1 fun a h2 ha hf => ?_
  refine w_app (hs a) rfl (ho.ext0 hf.ext0) ha.rs (by simpa using hroom) fun v' h3 hv hf2 => ?_
  exact k1 a v' h3 hv ((Fr.of_ext v hf.ext0).trans hf2)

/-- An object of its own: its cells, none of it yet looked at by elder versions. -/
def Own (h : Heap) (id : Nat) (cs : List V) : Prop := id < h.n ∧ ∃ low, h.get id = some (.cells cs 0 low)

theorem Own.ext {S : List Nat} {h h' : Heap} {id : Nat} {cs : List V} (hE : ExtX S h h') (k : Own h id cs) (hs : id ∉ S) : Own h' id cs := by
  obtain ⟨h1, low, h2⟩ := k
  exact ⟨Nat.lt_of_lt_of_le h1 hE.1, low, hE.get h1 hs h2⟩

theorem Own.ext0 {h h' : Heap} {id : Nat} {cs : List V} (hE : Ext h h') (k : Own h id cs) : Own h' id cs := k.ext hE (by simp)

theorem Own.at {h : Heap} {id hi : Nat} {cs : List V} (k : Own h id cs) (hl : cs.length = hi) : At h (.ptr id 0 0 hi) cs := by
  obtain ⟨_, low, h2⟩ := k
  subst hl
  exact .inr ⟨id, 0, 0, _, cs, 0, low, rfl, h2, good_refl (by omega), by omega, by simp⟩

theorem w_box {size : Nat} {x : Opd} {v : V} (hx : ev ls vs x = some v) (hl : v.cells.length = size) (h1 : allOne v.cells = true)
    (k1 : ∀ id h', Own h' id v.cells → h.n ≤ id → Ext h h' → WPo T O os (.ptr id 0 0 size :: ls) vs h' Q) : WPo T O (⟨none, .box size x⟩ :: os) ls vs h Q := by
  refine w_op (v := .ptr h.n 0 0 size) (h1 := h.alloc (.cells v.cells 0 0)) ?_ (k1 h.n _ ⟨by simp, 0, by rw [Heap.get_alloc, if_pos rfl]⟩ (Nat.le_refl _) (ExtX.alloc _ _))
  show o_box size x ls vs h = _
  simp only [o_box, hx, h1, nbeq.2 hl, Bool.and_self]

theorem w_alloc {zero : List V} (k1 : ∀ id h', Own h' id zero → h.n ≤ id → Ext h h' → WPo T O os (.ptr id 0 0 zero.length :: ls) vs h' Q) : WPo T O (⟨none, .alloc zero⟩ :: os) ls vs h Q := by
  refine w_op (v := .ptr h.n 0 0 zero.length) (h1 := h.alloc (.cells zero 0 0)) ?_ (k1 h.n _ ⟨by simp, 0, by rw [Heap.get_alloc, if_pos rfl]⟩ (Nat.le_refl _) (ExtX.alloc _ _))
  rfl

theorem w_store {n : Nat} {a x : Opd} {id off hi : Nat} {v : V} {cs : List V} (ha : ev ls vs a = some (.ptr id off 0 hi)) (hx : ev ls vs x = some v) (ho : Own h id cs) (hl : v.cells.length = n) (h1 : allOne v.cells = true) (hb : off + n ≤ hi) (hb2 : off + n ≤ cs.length)
    (k1 : ∀ h', Own h' id (splice cs off v.cells) → ExtX [id] h h' → h'.n = h.n → WPo T O os (.any :: ls) vs h' Q) : WPo T O (⟨none, .store n a x⟩ :: os) ls vs h Q := by
  obtain ⟨g1, low, g2⟩ := ho
  refine w_op (v := .any) (h1 := h.set id (.cells (splice cs off v.cells) 0 (minN low off))) ?_ (k1 _ ⟨g1, minN low off, by rw [Heap.get_set, if_pos rfl]⟩ (ExtX.set _ (by simp) _) rfl)
  show o_store n a x ls vs h = _
  simp only [o_store, ha, hx, wr, g2, h1, nbeq.2 hl, nble.2 hb, nble.2 hb2, show Nat.beq 0 0 = true from rfl, Bool.and_self]

theorem over_app : ∀ {xs a b : List V}, xs.length ≤ a.length → over xs (a ++ b) = over xs a ++ b
  | [], _, _, _ => rfl
  | x :: xs, [], _, h => by cases h
  | x :: xs, y :: a, b, h => by simp only [List.cons_append, over]; rw [over_app (by simpa using h)]

theorem splice_app_l : ∀ {a b xs : List V} {k : Nat}, k + xs.length ≤ a.length → splice (a ++ b) k xs = splice a k xs ++ b
  | a, b, xs, 0, h => by simp only [splice]; exact over_app (by omega)
  | [], b, xs, k + 1, h => by simp at h
  | y :: a, b, xs, k + 1, h => by
    simp only [List.cons_append, splice]
    rw [splice_app_l (by simp only [List.length_cons] at h; omega)]

theorem splice_app_r : ∀ {a b xs : List V} {k : Nat}, splice (a ++ b) (a.length + k) xs = a ++ splice b k xs
  | [], b, xs, k => by simp
  | y :: a, b, xs, k => by
    rw [List.length_cons, show a.length + 1 + k = (a.length + k) + 1 by omega, List.cons_append, splice, splice_app_r]
    rfl

theorem over_len : ∀ {xs a : List V}, xs.length ≤ a.length → (over xs a).length = a.length
  | [], _, _ => rfl
  | x :: xs, [], h => by cases h
  | x :: xs, y :: a, h => by simp only [over, List.length_cons]; rw [over_len (by simpa using h)]

theorem splice_len' : ∀ {a xs : List V} {k : Nat}, k + xs.length ≤ a.length → (splice a k xs).length = a.length
  | a, xs, 0, h => by simp only [splice]; exact over_len (by omega)
  | [], xs, k + 1, h => by simp at h
  | y :: a, xs, k + 1, h => by
    simp only [splice, List.length_cons]
    rw [splice_len' (by simp only [List.length_cons] at h; omega)]

/-- A part of an element of one's own slice, written. -/
theorem Ow.set {h : Heap} {esz : Nat} {v : V} {l : List (List V)} (ho : Ow h esz v l) {j d n : Nat} {x : V} (hj : j < l.length) (hn : x.cells.length = n) (hd : d + n ≤ esz) (h1 : allOne x.cells = true) :
    ∃ id off len ver full h', v = .sl id off len ver esz full ∧ len = l.length ∧ wr h n (.ptr id (off + j * esz + d) ver (off + len * esz)) x = some h' ∧ Ow h' esz v (l.set j (splice l[j] d x.cells)) ∧ ExtX (slIds v) h h' ∧ h'.n = h.n := by
  obtain ⟨⟨e1, e2, e3, e4⟩, hc⟩ := ho
  rcases hc with rfl | ⟨id, off, len, ver, full, cs, low, rfl, hg⟩
  · simp only [srcCells, Option.some.injEq, Prod.mk.injEq] at e1
    omega
  · simp only [srcCells, hg] at e1
    split at e1
    · rename_i hgd
      simp only [Bool.and_eq_true, nbeq] at hgd
      simp only [Option.some.injEq, Prod.mk.injEq] at e1
      obtain ⟨rfl, e1⟩ := e1
      have hgl := good_len hgd.1
      have hjm : j * esz + esz ≤ l.length * esz := by
        have := Nat.mul_le_mul_right esz (show j + 1 ≤ l.length by omega)
        rw [Nat.add_mul] at this; omega
      have hej : l[j].length = esz := e4 _ (List.getElem_mem hj)
      -- the cells, in parts
      have hl : l = l.take j ++ l[j] :: l.drop (j + 1) := by rw [← List.drop_eq_getElem_cons hj, List.take_append_drop]
      have hfl : l.flatten = (l.take j).flatten ++ (l[j] ++ (l.drop (j + 1)).flatten) := by
        have h2 := congrArg List.flatten hl
        rw [List.flatten_append, List.flatten_cons] at h2
        exact h2
      have hF1 : (l.take j).flatten.length = j * esz := by
        rw [flatten_len (fun c hc => e4 c (List.mem_of_mem_take hc)), List.length_take, Nat.min_eq_left (by omega)]
      have hcs : cs = cs.take off ++ ((l.take j).flatten ++ (l[j] ++ ((l.drop (j + 1)).flatten ++ cs.drop (off + l.length * esz)))) := by
        have a1 : cs = cs.take off ++ (((cs.drop off).take (l.length * esz)) ++ (cs.drop off).drop (l.length * esz)) := by
          rw [List.take_append_drop, List.take_append_drop]
        rw [e1, hfl, List.drop_drop] at a1
        simpa only [List.append_assoc] using a1
      have hto : (cs.take off).length = off := by simp; omega
      have hsp : splice cs (off + j * esz + d) x.cells = cs.take off ++ ((l.take j).flatten ++ (splice l[j] d x.cells ++ ((l.drop (j + 1)).flatten ++ cs.drop (off + l.length * esz)))) := by
        conv => lhs; rw [hcs]
        rw [show off + j * esz + d = (cs.take off).length + ((l.take j).flatten.length + d) by rw [hto, hF1]; omega, splice_app_r, splice_app_r, splice_app_l (by rw [hej, hn]; exact hd)]
      have hll : (splice cs (off + j * esz + d) x.cells).length = cs.length := splice_len' (by rw [hn]; omega)
      have hall : ∀ c ∈ l.set j (splice l[j] d x.cells), c.length = esz := by
        intro c hc
        rcases List.mem_or_eq_of_mem_set hc with h | h
        · exact e4 c h
        · rw [h, splice_len' (by rw [hej, hn]; exact hd), hej]
      have hset : (l.set j (splice l[j] d x.cells)).flatten = (l.take j).flatten ++ (splice l[j] d x.cells ++ (l.drop (j + 1)).flatten) := by
        rw [List.set_eq_take_append_cons_drop, if_pos hj]
        simp
      refine ⟨id, off, _, ver, full, h.set id (.cells (splice cs (off + j * esz + d) x.cells) ver (minN low (off + j * esz + d))), rfl, rfl, ?_, ⟨⟨?_, rfl, ?_, hall⟩, .inr ⟨id, off, _, ver, full, _, _, rfl, by rw [Heap.get_set, if_pos rfl]⟩⟩, ExtX.set _ (by simp [slIds]) _, rfl⟩
      · have b1 : Nat.ble (off + j * esz + d + n) (off + l.length * esz) = true := nble.2 (by omega)
        have b2 : Nat.ble (off + j * esz + d + n) cs.length = true := nble.2 (by omega)
        simp only [wr, hg, nbeq.2 hn, b1, b2, h1, show Nat.beq ver ver = true from nbeq.2 rfl, Bool.and_self]
      · simp only [srcCells, Heap.get_set, if_true, List.length_set]
        rw [good_refl (by rw [hll]; omega), show Nat.beq esz esz = true from nbeq.2 rfl]
        simp only [Bool.and_self, Option.some.injEq, Prod.mk.injEq, true_and]
        have hassoc : cs.take off ++ ((l.take j).flatten ++ (splice l[j] d x.cells ++ ((l.drop (j + 1)).flatten ++ cs.drop (off + l.length * esz)))) = cs.take off ++ ((l.set j (splice l[j] d x.cells)).flatten ++ cs.drop (off + l.length * esz)) := by rw [hset]; simp
        have hlen2 : (l.set j (splice l[j] d x.cells)).flatten.length = l.length * esz := by rw [flatten_len hall, List.length_set]
        rw [hsp, hassoc, List.drop_left' hto, ← hlen2, List.take_left]
      · exact e3
    · cases e1

theorem w_setE {n esz : Nat} {s i x : Opd} {v xv : V} {l : List (List V)} {k : IntKind} {j : Nat} (hs : ev ls vs s = some v) (hi : ev ls vs i = some (.int k (.ofNat j))) (hx : ∀ p, ev (p :: ls) vs x = some xv) (ho : Ow h esz v l) (hj : j < l.length) (hn : xv.cells.length = n) (hd : n ≤ esz) (h1 : allOne xv.cells = true)
    (k1 : ∀ p h', Ow h' esz v (l.set j (splice l[j] 0 xv.cells)) → ExtX (slIds v) h h' → h'.n = h.n → WPo T O os (.any :: p :: ls) vs h' Q) : WPo T O (⟨none, .iadr esz s i⟩ :: ⟨none, .store n (.loc 0) x⟩ :: os) ls vs h Q := by
  obtain ⟨id, off, len, ver, full, h', rfl, rfl, e1, e2, e3, e4⟩ := ho.set (d := 0) hj hn (by omega) h1
  refine w_op (v := .ptr id (off + j * esz) ver (off + l.length * esz)) (h1 := h) ?_ (w_op (v := .any) (h1 := h') ?_ (k1 _ h' e2 e3 e4))
  · show o_iadr esz s i ls vs h = _
    simp only [o_iadr, hs, hi, idxNat, natOf, nblt.2 hj, show Nat.beq esz esz = true from nbeq.2 rfl]
  · show o_store n (.loc 0) x (.ptr id (off + j * esz) ver (off + l.length * esz) :: ls) vs h = _
    simp only [o_store, ev_loc, nth_zero, hx]
    rw [Nat.add_zero] at e1
    rw [e1]

theorem w_setF {n esz d : Nat} {s i x : Opd} {v xv : V} {l : List (List V)} {k : IntKind} {j : Nat} (hs : ev ls vs s = some v) (hi : ev ls vs i = some (.int k (.ofNat j))) (hx : ∀ p q, ev (q :: p :: ls) vs x = some xv) (ho : Ow h esz v l) (hj : j < l.length) (hn : xv.cells.length = n) (hd : d + n ≤ esz) (h1 : allOne xv.cells = true)
    (k1 : ∀ p q h', Ow h' esz v (l.set j (splice l[j] d xv.cells)) → ExtX (slIds v) h h' → h'.n = h.n → WPo T O os (.any :: q :: p :: ls) vs h' Q) : WPo T O (⟨none, .iadr esz s i⟩ :: ⟨none, .fadr d (.loc 0)⟩ :: ⟨none, .store n (.loc 0) x⟩ :: os) ls vs h Q := by
  obtain ⟨id, off, len, ver, full, h', rfl, rfl, e1, e2, e3, e4⟩ := ho.set (d := d) hj hn hd h1
  refine w_op (v := .ptr id (off + j * esz) ver (off + l.length * esz)) (h1 := h) ?_ (w_op (v := .ptr id (off + j * esz + d) ver (off + l.length * esz)) (h1 := h) rfl (w_op (v := .any) (h1 := h') ?_ (k1 _ _ h' e2 e3 e4)))
  · show o_iadr esz s i ls vs h = _
    simp only [o_iadr, hs, hi, idxNat, natOf, nblt.2 hj, show Nat.beq esz esz = true from nbeq.2 rfl]
  · show o_store n (.loc 0) x (.ptr id (off + j * esz + d) ver (off + l.length * esz) :: .ptr id (off + j * esz) ver (off + l.length * esz) :: ls) vs h = _
    simp only [o_store, ev_loc, nth_zero, hx, e1]

mutual
theorem V.beq_refl : ∀ v : V, V.beq v v = true
  | .any | .nilp | .nils | .nilm | .nilf | .nili => rfl
  | .bool b => by simp [V.beq]
  | .int k n => by simp [V.beq]
  | .str s => by simp only [V.beq]; exact eqBytes_refl s
  | .ptr a b c d => by simp only [V.beq, show ∀ n, Nat.beq n n = true from fun n => nbeq.2 rfl, Bool.and_self]
  | .vptr v o => by simp only [V.beq, V.beq_refl v, show ∀ n, Nat.beq n n = true from fun n => nbeq.2 rfl, Bool.and_self]
  | .sl a b c d e f => by simp only [V.beq, show ∀ n, Nat.beq n n = true from fun n => nbeq.2 rfl, Bool.and_self, BEq.rfl]
  | .vec l => by simp only [V.beq]; exact V.beqL_refl l
  | .map i => by simp only [V.beq]; exact nbeq.2 rfl
  | .fn f a b => by simp only [V.beq, V.beqL_refl a, V.beqL_refl b, show ∀ n, Nat.beq n n = true from fun n => nbeq.2 rfl, Bool.and_self]
  | .iface t v => by simp only [V.beq, V.beq_refl v, show ∀ n, Nat.beq n n = true from fun n => nbeq.2 rfl, Bool.and_self]
  | .agg l => by simp only [V.beq]; exact V.beqL_refl l
  | .tuple l => by simp only [V.beq]; exact V.beqL_refl l
  | .sym i => by simp only [V.beq]; exact nbeq.2 rfl
theorem V.beqL_refl : ∀ l : List V, V.beqL l l = true
  | [] => rfl
  | a :: l => by simp only [V.beqL, V.beq_refl a, V.beqL_refl l, Bool.and_self]
theorem eqBytes_refl : ∀ s : List UInt8, eqBytes s s = true
  | [] => rfl
  | a :: s => by simp only [eqBytes, show Nat.beq a.toNat a.toNat = true from nbeq.2 rfl]; exact eqBytes_refl s
end

theorem w_nilck {x : Opd} {p : V} {c : List V} (hx : ev ls vs x = some p) (k : At h p c) (k1 : WPo T O os (p :: ls) vs h Q) : WPo T O (⟨none, .nilck x⟩ :: os) ls vs h Q := by
  refine w_op ?_ k1
  show o_nilck x ls vs h = _
  rcases k with ⟨v, o, rfl, _⟩ | ⟨id, o, ver, hi, cs, cur, low, rfl, _⟩ <;> simp only [o_nilck, hx]

/-- A place of an array that a pointer leads to. -/
theorem w_iadrAt {len esz j : Nat} {x i : Opd} {p : V} {c : List V} {k : IntKind} (hx : ev ls vs x = some p) (hi : ev ls vs i = some (.int k (.ofNat j))) (k0 : At h p c) (hj : Nat.blt j len = true) (hd : Nat.ble (j * esz) c.length = true) (k1 : At h (padd p (j * esz)) (c.drop (j * esz)) → WPo T O os (padd p (j * esz) :: ls) vs h Q) :
    WPo T O (⟨none, .iadrA len esz x i⟩ :: os) ls vs h Q := by
  refine w_op ?_ (k1 (k0.fadr (nble.1 hd)))
  show o_iadrA len esz x i ls vs h = _
  rcases k0 with ⟨v, o, rfl, _⟩ | ⟨id, o, ver, hi', cs, cur, low, rfl, _⟩ <;> simp only [o_iadrA, hx, hi, idxNat, natOf, hj, padd]

/-- A store through a pointer to an element of one's own slice. -/
theorem w_storeS {n esz d j : Nat} {a x : Opd} {v xv : V} {l : List (List V)} (ha : ev ls vs a = some (padd (slotP v j) d)) (hx : ev ls vs x = some xv) (ho : Ow h esz v l) (hj : j < l.length) (hn : xv.cells.length = n) (hd : d + n ≤ esz) (h1 : allOne xv.cells = true)
    (k1 : ∀ h', Ow h' esz v (l.set j (splice l[j] d xv.cells)) → ExtX (slIds v) h h' → h'.n = h.n → WPo T O os (.any :: ls) vs h' Q) : WPo T O (⟨none, .store n a x⟩ :: os) ls vs h Q := by
  obtain ⟨id, off, len, ver, full, h', rfl, rfl, e1, e2, e3, e4⟩ := ho.set (d := d) hj hn hd h1
  refine w_op (v := .any) (h1 := h') ?_ (k1 h' e2 e3 e4)
  show o_store n a x ls vs h = _
  simp only [o_store, ha, hx, slotP, padd]
  rw [e1]

/-- Is a slice nil? -/
theorem w_isnil {x : Opd} {esz : Nat} {v : V} {l : List (List V)} (hx : ev ls vs x = some v) (hr : RS h esz v l) (k1 : v = .nils → WPo T O os (.bool true :: ls) vs h Q) (k2 : v ≠ .nils → WPo T O os (.bool false :: ls) vs h Q) : WPo T O (⟨none, .bin .eql .slice x (.cst .nils)⟩ :: os) ls vs h Q := by
  have h2 := hr.2.1
  cases v with
  | nils => exact w_op (o_bin_v hx rfl rfl) (k1 rfl)
  | vec es => exact w_op (o_bin_v hx rfl rfl) (k2 (by simp))
  | sl a b c d e f => exact w_op (o_bin_v hx rfl rfl) (k2 (by simp))
  | _ => cases h2

/-- A slice just made, of which nothing has turned. -/
def NewS (h : Heap) (v : V) (c : List V) : Prop := ∃ id n e f low, v = .sl id 0 n 0 e f ∧ id < h.n ∧ h.get id = some (.cells c 0 low)
theorem NewS.ext {S : List Nat} {h h' : Heap} {v : V} {c : List V} (hE : ExtX S h h') (k : NewS h v c) (hs : ∀ j ∈ slIds v, j ∉ S) : NewS h' v c := by
  obtain ⟨id, n, e, f, low, rfl, h1, h2⟩ := k
  exact ⟨id, n, e, f, low, rfl, Nat.lt_of_lt_of_le h1 hE.1, hE.get h1 (hs id (by simp [slIds])) h2⟩
theorem NewS.ext0 {h h' : Heap} {v : V} {c : List V} (hE : Ext h h') (k : NewS h v c) : NewS h' v c := k.ext hE (by simp)

theorem w_snap {i : Nat} {v : V} {c : List V} (hi : nth ls i = some v) (k : NewS h v c) (k1 : WPo T O os (.agg c :: ls) vs h Q) : WPo T O (⟨none, .snap i⟩ :: os) ls vs h Q := by
  obtain ⟨id, n, e, f, low, rfl, h1, h2⟩ := k
  refine w_op ?_ k1
  show o_snap i ls vs h = _
  simp only [o_snap, hi, newId, h2, snapV]

theorem w_chkObj {i j : Nat} {v : V} {c : List V} (hi : nth ls i = some v) (hj : nth ls j = some (.agg c)) (k : NewS h v c) (k1 : WPo T O os (.any :: ls) vs h Q) : WPo T O (⟨none, .chkObj i j⟩ :: os) ls vs h Q := by
  obtain ⟨id, n, e, f, low, rfl, h1, h2⟩ := k
  refine w_op ?_ k1
  show o_chkObj i j ls vs h = _
  simp only [o_chkObj, hi, hj, newId, h2, snapV, V.beq_refl]

theorem w_snapP {i id hi : Nat} {c : List V} (hi' : nth ls i = some (.ptr id 0 0 hi)) (k : Own h id c) (k1 : WPo T O os (.agg c :: ls) vs h Q) : WPo T O (⟨none, .snap i⟩ :: os) ls vs h Q := by
  obtain ⟨h1, low, h2⟩ := k
  refine w_op ?_ k1
  show o_snap i ls vs h = _
  simp only [o_snap, hi', newId, h2, snapV]

theorem w_chkObjP {i j id hi : Nat} {c : List V} (hi' : nth ls i = some (.ptr id 0 0 hi)) (hj : nth ls j = some (.agg c)) (k : Own h id c) (k1 : WPo T O os (.any :: ls) vs h Q) : WPo T O (⟨none, .chkObj i j⟩ :: os) ls vs h Q := by
  obtain ⟨h1, low, h2⟩ := k
  refine w_op ?_ k1
  show o_chkObj i j ls vs h = _
  simp only [o_chkObj, hi', hj, newId, h2, snapV, V.beq_refl]

/-- A literal of one element, and that it is new. -/
theorem w_lit1N {esz : Nat} {zero : List V} {x : Opd} {v0 : V} (hx : ev ls vs x = some v0) (hl : v0.cells.length = esz) (hz : zero.length = esz) (h1 : allOne v0.cells = true)
    (k1 : ∀ v' h', Ow h' esz v' [v0.cells] → NewS h' v' v0.cells → Fr h .nils h' v' → WPo T O os (v' :: ls) vs h' Q) : WPo T O (⟨none, .bslice 1 esz zero [(0, esz, x)]⟩ :: os) ls vs h Q := by
  have ho := Ow.new (h := h) (esz := esz) (l := [v0.cells]) (by simp [hl]) true
  simp only [List.flatten_cons, List.flatten_nil, List.append_nil] at ho
  refine w_op (v := .sl h.n 0 1 0 esz true) (h1 := h.alloc (.cells v0.cells 0 big)) ?_ (k1 _ _ ho ⟨h.n, 1, esz, true, big, rfl, by simp, by rw [Heap.get_alloc, if_pos rfl]⟩ ⟨ExtX.alloc _ _, fun j hj => by simp [slIds] at hj; exact .inr (by omega)⟩)
  show o_bslice 1 esz zero [(0, esz, x)] ls vs h = _
  have e1 : rep 1 zero = zero := by simp [rep]
  have e2 : Nat.ble (0 + esz) zero.length = true := by rw [hz, nble]; omega
  simp only [o_bslice, evp, hx, fillP, e1, nbeq.2 hl, e2, h1, Bool.and_self, splice, over_all (hl.trans hz.symm)]

theorem rep_flat {zero : List V} : ∀ n, rep n zero = (List.replicate n zero).flatten
  | 0 => rfl
  | n + 1 => by simp only [rep, List.replicate_succ, List.flatten_cons, rep_flat n]

theorem w_appz {esz : Nat} {zero : List V} {s n : Opd} {v : V} {l : List (List V)} {k : IntKind} {m : Nat} (hs : ev ls vs s = some v) (hn : ev ls vs n = some (.int k (.ofNat m))) (ho : Ow h esz v l) (hz : zero.length = esz) (hroom : l.length + m ≤ 4294967296)
    (k1 : ∀ v' h', Ow h' esz v' (l ++ List.replicate m zero) → Fr h v h' v' → WPo T O os (v' :: ls) vs h' Q) : WPo T O (⟨none, .appz esz zero s n⟩ :: os) ls vs h Q := by
  obtain ⟨v', h', a1, a2, a3, a4⟩ := appV_ok (l2 := List.replicate m zero) ho (by intro c hc; rw [List.eq_of_mem_replicate hc]; exact hz) (by simpa using hroom)
  refine w_op ?_ (k1 v' h' a2 ⟨a3, a4⟩)
  show o_appz esz zero s n ls vs h = _
  rw [List.length_replicate, ← rep_flat] at a1
  simp only [o_appz, hs, hn, natOf, roomy_iff.2 (show m ≤ 4294967296 by omega), a1]

theorem w_mkS {esz bytes : Nat} {zero : List V} {l c : Opd} {k k' : IntKind} {m : Nat} (hl : ev ls vs l = some (.int k (.ofNat m))) (hc : ev ls vs c = some (.int k' (.ofNat m))) (hb : m * bytes ≤ 70368744177664) (hm : m ≤ 4611686018427387904) (hz : zero.length = esz)
    (k1 : ∀ v' h', Ow h' esz v' (List.replicate m zero) → Fr h .nils h' v' → WPo T O os (v' :: ls) vs h' Q) : WPo T O (⟨none, .mkS esz bytes zero l c⟩ :: os) ls vs h Q := by
  have ho := Ow.new (h := h) (esz := esz) (l := List.replicate m zero) (by intro c hc; rw [List.eq_of_mem_replicate hc]; exact hz) (Nat.beq m m)
  rw [← rep_flat, List.length_replicate] at ho
  refine w_op (v := .sl h.n 0 m 0 esz (Nat.beq m m)) (h1 := h.alloc (.cells (rep m zero) 0 big)) ?_ (k1 _ _ ho ⟨ExtX.alloc _ _, fun j hj => by simp [slIds] at hj; exact .inr (by omega)⟩)
  show o_mkS esz bytes zero l c ls vs h = _
  simp only [o_mkS, hl, hc, natOf, nble.2 (Nat.le_refl m), nble.2 hb, nble.2 hm, Bool.and_self]

theorem w_mx1 {x : Opd} {l : List Opd} {k : IntKind} {a b r : Int} (hx : ev ls vs x = some (.int k a)) (hl : evs ls vs l = some [.int k b]) (hr : (if b > a then b else a) = r) (k1 : WPo T O os (.int k r :: ls) vs h Q) : WPo T O (⟨none, .mx x l⟩ :: os) ls vs h Q := by
  subst hr
  refine w_op ?_ k1
  show o_mx x l ls vs h = _
  simp only [o_mx, hx, hl, mxV, if_true, keep]

/-- A variable of one's own, with what it holds at first. -/
theorem w_new {n : Nat} {zero : List V} {x : Opd} {v : V} (hx : ∀ p, ev (p :: ls) vs x = some v) (hl : v.cells.length = n) (hz : zero.length = n) (h1 : allOne v.cells = true)
    (k1 : ∀ id h', Own h' id v.cells → h.n ≤ id → Ext h h' → WPo T O os (.any :: .ptr id 0 0 n :: ls) vs h' Q) : WPo T O (⟨none, .alloc zero⟩ :: ⟨none, .store n (.loc 0) x⟩ :: os) ls vs h Q := by
  subst hz
  refine w_alloc fun id h2 ho hn hE => ?_
  refine w_store rfl (hx _) ho hl h1 (by omega) (by omega) fun h3 ho3 hE3 _ => ?_
  refine k1 id h3 ?_ hn (hE.step hE3 fun j hj => by simp at hj; exact .inr (by omega))
  rwa [show splice zero 0 v.cells = v.cells from by rw [splice]; exact over_all hl] at ho3

end rules

end Am

/-
  Plain data by value is typed: what kind each cell is of; and how much of it there is.
-/
namespace Am
open Go
set_option linter.unusedSimpArgs false
set_option linter.unusedVariables false

variable {Hd : Type}

def TyVs (R : TypeId → List V → Prop) : List TypeId → List V → Prop
  | [], cs => cs = []
  | t :: ts, cs => ∃ a b, cs = a ++ b ∧ R t a ∧ TyVs R ts b

/-- Cells of a type, by value. -/
def TyV (P : Program) : Nat → TypeId → List V → Prop
  | 0, _, _ => False
  | n + 1, t, cs => match P.underlying t with
    | some .bool => ∃ b, cs = [.bool b]
    | some (.int k) => ∃ i, cs = [.int k i] ∧ (Lit.int k i).wf = true
    | some .string => ∃ s, cs = [.str s]
    | some (.slice e) => cs = [.nils] ∨ ∃ es : List (List V), cs = [.vec (es.map .agg)] ∧ ∀ c ∈ es, TyV P n e c
    | some (.struct fs) => TyVs (TyV P n) (fs.toList.map (·.type)) cs
    | some (.array m e) => TyVs (TyV P n) (List.replicate m e) cs
    | _ => False

theorem elemsD_map : ∀ (ds : List (DataW Hd)), elemsD ds = (ds.map cellsD).map .agg
  | [] => rfl
  | d :: l => by simp [elemsD, elemsD_map l]

theorem tyVs_of {R : TypeId → List V → Prop} : ∀ (ts : List TypeId) (xs : List (DataW Hd × List MemPlace)), xs.length = ts.length → (∀ (i : Nat) (t : TypeId), ts[i]? = some t → ∃ y, xs[i]? = some y ∧ R t (cellsD y.1)) → TyVs R ts (cellsDL (xs.map (·.1)))
  | [], [], _, _ => rfl
  | [], _ :: _, h, _ => by cases h
  | _ :: _, [], h, _ => by cases h
  | t :: ts, x :: xs, h, k => by
    refine ⟨cellsD x.1, cellsDL (xs.map (·.1)), by simp [cellsDL], ?_, tyVs_of ts xs (by simpa using h) fun i t' ht => ?_⟩
    · obtain ⟨y, hy, hr⟩ := k 0 t rfl
      simp at hy; subst hy; exact hr
    · obtain ⟨y, hy, hr⟩ := k (i + 1) t' (by simpa using ht)
      exact ⟨y, by simpa using hy, hr⟩

theorem ty_of_trod {enc : TypeId × Value → Hd} {P : Program} {W : World} {ts : List TypeId} {base : Nat} {spare : Nat → Bool} {held : Bool} (hp : plainB P ts = true) :
    ∀ (fuel : Nat) (t : TypeId) (cs : List Value) (x : DataW Hd × List MemPlace), t ∈ ts → DataW.trod enc P W base spare held fuel t cs = some x → TyV P fuel t (cellsD x.1)
  | 0, t, cs, x, ht, h => by simp [DataW.trod] at h
  | fuel + 1, t, cs, x, ht, h => by
    have hpt := List.all_eq_true.1 hp t ht
    unfold plainT at hpt
    unfold TyV
    split at hpt
    · rename_i hu
      obtain ⟨b, rfl, rfl⟩ := DataW.trod_bool hu h
      try simp only [hu]
      exact ⟨b, rfl⟩
    · rename_i hu
      obtain ⟨n, rfl, rfl, hw⟩ := DataW.trod_int hu h
      try simp only [hu]
      exact ⟨n, rfl, hw⟩
    · rename_i hu
      obtain ⟨s, rfl, rfl, _⟩ := DataW.trod_string hu h
      try simp only [hu]
      exact ⟨_, rfl⟩
    · rename_i e hu
      simp only [Bool.and_eq_true, List.contains_iff_mem] at hpt
      obtain ⟨⟨h1, he⟩, hce⟩ := hpt
      try simp only [hu]
      rcases DataW.trod_slice hu h with ⟨rfl, rfl⟩ | ⟨a, len, cap, elems, rest, n, hn, rfl, rfl, hb, hlc, _, hel, hget, _⟩
      · exact .inl rfl
      · cases hn
        refine .inr ⟨(elems.map (·.1)).map cellsD, by simp only [cellsD, elemsD_map], fun c hc => ?_⟩
        simp only [List.mem_map] at hc
        obtain ⟨d, ⟨y, hy, rfl⟩, rfl⟩ := hc
        obtain ⟨i, hi, e1⟩ := List.mem_iff_getElem.1 hy
        have := hget i (by omega)
        rw [List.getElem?_eq_getElem hi, e1] at this
        obtain ⟨cs', hc1, hc2⟩ := Option.bind_eq_some_iff.1 this
        exact ty_of_trod hp fuel e cs' y he hc2
    · rename_i fs hu
      simp only [Bool.and_eq_true, List.all_eq_true, List.contains_iff_mem] at hpt
      obtain ⟨hts, hcon⟩ := hpt
      try simp only [hu]
      obtain ⟨xs, n, hn, rfl, hl, hxl, hget⟩ := DataW.trod_struct hu h
      cases hn
      simp only [cellsD]
      refine tyVs_of _ xs (by simp [hxl]) fun i t' ht' => ?_
      simp only [List.getElem?_map, Option.map_eq_some_iff] at ht'
      obtain ⟨f, hf, rfl⟩ := ht'
      have hf' : fs[i]? = some f := by simpa using hf
      have hg := hget i f hf'
      obtain ⟨y, hy⟩ : ∃ y, xs[i]? = some y := by
        have : i < fs.size := (Array.getElem?_eq_some_iff.1 hf').1
        exact ⟨xs[i]'(by omega), by simp [hxl, this]⟩
      rw [hy] at hg
      exact ⟨y, hy, ty_of_trod hp fuel f.type _ y (hts f (List.mem_of_getElem? hf)) hg⟩
    · rename_i m e hu
      simp only [Bool.and_eq_true, List.contains_iff_mem] at hpt
      obtain ⟨he, hcon⟩ := hpt
      try simp only [hu]
      obtain ⟨xs, n, hn, rfl, hl, hxl, hget⟩ := trod_array_get hu h
      cases hn
      simp only [cellsD]
      refine tyVs_of _ xs (by simp [hxl]) fun i t' ht' => ?_
      obtain ⟨hi, rfl⟩ : i < m ∧ e = t' := by
        rw [List.getElem?_replicate] at ht'
        split at ht'
        · rename_i hlt; exact ⟨hlt, by simpa using ht'⟩
        · cases ht'
      have hg := hget i hi
      obtain ⟨y, hy⟩ : ∃ y, xs[i]? = some y := ⟨xs[i]'(by omega), by simp [hxl, hi]⟩
      rw [hy] at hg
      exact ⟨y, hy, ty_of_trod hp fuel e _ y he hg⟩
    · cases hpt

mutual
/-- How much there is of a value: every part, every letter. -/
def bulkV : V → Nat
  | .agg cs => bulkL cs
  | .vec es => bulkL es + 1
  | .str s => s.length + 1
  | _ => 1
def bulkL : List V → Nat
  | [] => 0
  | v :: l => bulkV v + bulkL l
end

theorem bulkL_append : ∀ (a b : List V), bulkL (a ++ b) = bulkL a + bulkL b
  | [], b => by simp [bulkL]
  | x :: a, b => by simp [bulkL, bulkL_append a b]; omega

theorem bulk_one {v : V} (h : v.one = true) : 1 ≤ bulkV v := by
  cases v <;> first
    | exact Nat.le_refl _
    | exact Nat.le_add_left _ _
    | cases h

theorem bulk_len : ∀ {c : List V}, allOne c = true → c.length ≤ bulkL c
  | [], _ => Nat.le_refl _
  | v :: c, h => by
    have h1 := bulk_one (allOne_iff.1 h v (by simp))
    have h2 := bulk_len (c := c) (allOne_iff.2 fun x hx => allOne_iff.1 h x (by simp [hx]))
    simp only [bulkL, List.length_cons]; omega

theorem bulk_mem : ∀ {es : List (List V)} {c : List V}, c ∈ es → bulkL c ≤ bulkL (es.map .agg)
  | e :: es, c, h => by
    simp only [List.map_cons, bulkL, bulkV]
    rcases List.mem_cons.1 h with rfl | h
    · omega
    · have := bulk_mem h; omega

theorem bulk_count : ∀ {es : List (List V)}, (∀ c ∈ es, allOne c = true ∧ 1 ≤ c.length) → es.length ≤ bulkL (es.map .agg)
  | [], _ => Nat.le_refl _
  | e :: es, h => by
    have h1 := h e (by simp)
    have h2 := bulk_count (es := es) fun c hc => h c (by simp [hc])
    have h3 := bulk_len h1.1
    simp only [List.map_cons, bulkL, bulkV, List.length_cons]; omega

theorem tyVs_one {R : TypeId → List V → Prop} (hR : ∀ t cs, R t cs → allOne cs = true) : ∀ (ts : List TypeId) (cs : List V), TyVs R ts cs → allOne cs = true
  | [], _, h => by
    simp only [TyVs] at h
    subst h
    rfl
  | t :: ts, cs, h => by
    obtain ⟨a, b, rfl, h1, h2⟩ := h
    exact allOne_append (hR t a h1) (tyVs_one hR ts b h2)

theorem ty_one {P : Program} : ∀ (n : Nat) (t : TypeId) (cs : List V), TyV P n t cs → allOne cs = true
  | 0, _, _, h => h.elim
  | n + 1, t, cs, h => by
    unfold TyV at h
    split at h
    · obtain ⟨b, rfl⟩ := h; rfl
    · obtain ⟨b, rfl, _⟩ := h; rfl
    · obtain ⟨b, rfl⟩ := h; rfl
    · rcases h with rfl | ⟨es, rfl, _⟩ <;> rfl
    · exact tyVs_one (ty_one n) _ _ h
    · exact tyVs_one (ty_one n) _ _ h
    · exact h.elim

section open_types
variable {P : Program} {n : Nat} {t : TypeId} {cs : List V}

theorem ty_bool (hu : P.underlying t = some .bool) (h : TyV P n t cs) : ∃ b, cs = [.bool b] := by
  cases n with
  | zero => exact h.elim
  | succ n => simpa only [TyV, hu] using h
theorem ty_int {k : IntKind} (hu : P.underlying t = some (.int k)) (h : TyV P n t cs) : ∃ i, cs = [.int k i] ∧ (Lit.int k i).wf = true := by
  cases n with
  | zero => exact h.elim
  | succ n => simpa only [TyV, hu] using h
theorem ty_str (hu : P.underlying t = some .string) (h : TyV P n t cs) : ∃ s, cs = [.str s] := by
  cases n with
  | zero => exact h.elim
  | succ n => simpa only [TyV, hu] using h
/-- A slice's elements, whatever the heap. -/
theorem ty_slice {e : TypeId} (hu : P.underlying t = some (.slice e)) (h : TyV P n t cs) :
    ∃ v es m, cs = [v] ∧ (∀ (H : Nat → List V → Prop), True) ∧ n = m + 1 ∧ (∀ c ∈ es, TyV P m e c) ∧ bulkL (es.map .agg) ≤ bulkL cs ∧ (v = .nils ∧ es = [] ∨ v = .vec (es.map .agg)) := by
  cases n with
  | zero => exact h.elim
  | succ n =>
    simp only [TyV, hu] at h
    rcases h with rfl | ⟨es, rfl, h⟩
    · exact ⟨_, [], n, rfl, fun _ => trivial, rfl, by simp, by simp [bulkL], .inl ⟨rfl, rfl⟩⟩
    · exact ⟨_, es, n, rfl, fun _ => trivial, rfl, h, by simp only [bulkL, bulkV]; omega, .inr rfl⟩
theorem ty_struct {fs : Array Field} {ts : List TypeId} (hu : P.underlying t = some (.struct fs)) (ht : fs.toList.map (·.type) = ts) (h : TyV P n t cs) : ∃ m, n = m + 1 ∧ TyVs (TyV P m) ts cs := by
  cases n with
  | zero => exact h.elim
  | succ n =>
    simp only [TyV, hu] at h
    exact ⟨n, rfl, ht ▸ h⟩
theorem ty_arr {m : Nat} {e : TypeId} (hu : P.underlying t = some (.array m e)) (h : TyV P n t cs) : ∃ k, n = k + 1 ∧ TyVs (TyV P k) (List.replicate m e) cs := by
  cases n with
  | zero => exact h.elim
  | succ n =>
    simp only [TyV, hu] at h
    exact ⟨n, rfl, h⟩
end open_types

end Am

/-
  An argument that the row reads, as an abstract value: typed, and what lies there.
-/
namespace Am
open Go

variable {Hd : Type} {enc : TypeId × Value → Hd} {P : Program} {W : World} {tk : Nat → Option Value} {ts : List TypeId} {base : Nat} {spare : Nat → Bool} {held : Bool} {t : TypeId} {d : DataW Hd} {p : List MemPlace}

theorem arg_agg (hp : plainB P ts = true) (ht : t ∈ ts) {arr : Array Value} (h : ∃ fuel, DataW.trod enc P W base spare held fuel t (Value.agg arr).cells.toList = some (d, p)) :
    (∃ n, TyV P n t (cellsD d)) ∧ VR (E0 W tk) (.agg (cellsD d)) (.agg arr) := by
  obtain ⟨fuel, h⟩ := h
  have h : DataW.trod enc P W base spare held fuel t arr.toList = some (d, p) := h
  obtain ⟨h1, h2, h3⟩ := open_ok (tk := tk) hp fuel t arr.toList (d, p) ht h
  refine ⟨⟨fuel, ty_of_trod hp fuel t arr.toList (d, p) ht h⟩, .agg ?_ fun i c x hc hx => h3 i c x hc (by simpa using hx)⟩
  simp only at h1
  rw [h1, ← h2]
  simp

theorem arg_one (hp : plainB P ts = true) (ht : t ∈ ts) {v0 : Value} (hv : v0.cells = #[v0]) (h : ∃ fuel, DataW.trod enc P W base spare held fuel t v0.cells.toList = some (d, p)) :
    (∃ n, TyV P n t (cellsD d)) ∧ ∃ c, cellsD d = [c] ∧ VR (E0 W tk) c v0 := by
  obtain ⟨fuel, h⟩ := h
  rw [hv] at h
  obtain ⟨h1, h2, h3⟩ := open_ok (tk := tk) hp fuel t _ (d, p) ht h
  refine ⟨⟨fuel, ty_of_trod hp fuel t _ (d, p) ht h⟩, ?_⟩
  simp only [List.length_cons, List.length_nil] at h2
  simp only [← h2] at h1
  obtain ⟨c, hc⟩ := List.length_eq_one_iff.1 h1
  exact ⟨c, hc, h3 0 c v0 (by simp [hc]) (by simp)⟩

end Am

/-
  The program's plain data as cells: instructions, functions, roles, modules.
-/
namespace Am
open Go
set_option linter.unusedSimpArgs false
set_option linter.unusedVariables false

/-- A field of an object of one's own. -/
theorem w_rf {T : Nat → Option AFunc} {O : CallF} {vs ls : List V} {h : Heap} {Q : List V → Heap → Prop} {os : List AOp} {d hi id : Nat} {x : Opd} {cs : List V} {v : V} (hx : ev ls vs x = some (.ptr id 0 0 hi)) (ho : Own h id cs) (hv : nth cs d = some v) (hd : Nat.blt d hi = true) (hl : cs.length = hi)
    (k1 : WPo T O os (v :: .ptr id (0 + d) 0 hi :: ls) vs h Q) : WPo T O (⟨none, .fadr d x⟩ :: ⟨none, .load false 1 (.loc 0)⟩ :: os) ls vs h Q := by
  have hd := nblt.1 hd
  refine w_op (v := .ptr id (0 + d) 0 hi) (h1 := h) ?_ ?_
  · show o_fadr d x ls vs h = _
    simp only [o_fadr, hx]
  · have hA := (ho.at hl).fadr (d := d) (by omega)
    have hc : cs.drop d = v :: cs.drop (d + 1) := by
      rw [nth_eq] at hv
      obtain ⟨h1, h2⟩ := List.getElem?_eq_some_iff.1 hv
      rw [List.drop_eq_getElem_cons h1, h2]
    rw [hc] at hA
    exact w_load1 (p := .ptr id (0 + d) 0 hi) rfl hA rfl k1

theorem w_rfg {T : Nat → Option AFunc} {O : CallF} {vs ls : List V} {h : Heap} {Q : List V → Heap → Prop} {os : List AOp} {d hi id : Nat} {x : Opd} {cs : List V} {v : V} {g1 g2 : Nat × Bool} (h1 : wantedV ls (some g1) = some true) (hx : ev ls vs x = some (.ptr id 0 0 hi)) (ho : Own h id cs) (hv : nth cs d = some v) (hd : Nat.blt d hi = true) (hl : cs.length = hi)
    (h2 : wantedV (.ptr id (0 + d) 0 hi :: ls) (some g2) = some true) (k1 : WPo T O os (v :: .ptr id (0 + d) 0 hi :: ls) vs h Q) : WPo T O (⟨some g1, .fadr d x⟩ :: ⟨some g2, .load false 1 (.loc 0)⟩ :: os) ls vs h Q := by
  have hd := nblt.1 hd
  refine w_on h1 (w_op (v := .ptr id (0 + d) 0 hi) (h1 := h) ?_ (w_on h2 ?_))
  · show o_fadr d x ls vs h = _
    simp only [o_fadr, hx]
  · have hA := (ho.at hl).fadr (d := d) (by omega)
    have hc : cs.drop d = v :: cs.drop (d + 1) := by
      rw [nth_eq] at hv
      obtain ⟨h1, h2⟩ := List.getElem?_eq_some_iff.1 hv
      rw [List.drop_eq_getElem_cons h1, h2]
    rw [hc] at hA
    exact w_load1 (p := .ptr id (0 + d) 0 hi) rfl hA rfl k1

/-! ### Numbers that count -/
section nat
variable {T : Nat → Option AFunc} {O : CallF} {vs ls : List V} {h : Heap} {Q : List V → Heap → Prop} {os : List AOp} {q : EqK} {x y : Opd} {k : IntKind} {a b : Nat}

theorem w_lssN (hx : ev ls vs x = some (.int k (.ofNat a))) (hy : ev ls vs y = some (.int k (.ofNat b))) (k1 : a < b → WPo T O os (.bool true :: ls) vs h Q) (k2 : b ≤ a → WPo T O os (.bool false :: ls) vs h Q) : WPo T O (⟨none, .bin .lss q x y⟩ :: os) ls vs h Q :=
  w_lss hx hy (fun e => k1 (Int.ofNat_lt.1 e)) (fun e => k2 (Int.ofNat_le.1 e))
theorem w_leqN (hx : ev ls vs x = some (.int k (.ofNat a))) (hy : ev ls vs y = some (.int k (.ofNat b))) (k1 : a ≤ b → WPo T O os (.bool true :: ls) vs h Q) (k2 : b < a → WPo T O os (.bool false :: ls) vs h Q) : WPo T O (⟨none, .bin .leq q x y⟩ :: os) ls vs h Q :=
  w_leq hx hy (fun e => k1 (Int.ofNat_le.1 e)) (fun e => k2 (Int.ofNat_lt.1 e))
theorem w_gtrN (hx : ev ls vs x = some (.int k (.ofNat a))) (hy : ev ls vs y = some (.int k (.ofNat b))) (k1 : b < a → WPo T O os (.bool true :: ls) vs h Q) (k2 : a ≤ b → WPo T O os (.bool false :: ls) vs h Q) : WPo T O (⟨none, .bin .gtr q x y⟩ :: os) ls vs h Q :=
  w_gtr hx hy (fun e => k1 (Int.ofNat_lt.1 e)) (fun e => k2 (Int.ofNat_le.1 e))
theorem w_geqN (hx : ev ls vs x = some (.int k (.ofNat a))) (hy : ev ls vs y = some (.int k (.ofNat b))) (k1 : b ≤ a → WPo T O os (.bool true :: ls) vs h Q) (k2 : a < b → WPo T O os (.bool false :: ls) vs h Q) : WPo T O (⟨none, .bin .geq q x y⟩ :: os) ls vs h Q :=
  w_geq hx hy (fun e => k1 (Int.ofNat_le.1 e)) (fun e => k2 (Int.ofNat_lt.1 e))
theorem w_eqlN (hx : ev ls vs x = some (.int k (.ofNat a))) (hy : ev ls vs y = some (.int k (.ofNat b))) (k1 : a = b → WPo T O os (.bool true :: ls) vs h Q) (k2 : a ≠ b → WPo T O os (.bool false :: ls) vs h Q) : WPo T O (⟨none, .bin .eql q x y⟩ :: os) ls vs h Q :=
  w_eql hx hy (fun e => k1 (Int.ofNat.inj e)) (fun e => k2 fun e' => e (by rw [e']))
theorem w_neqN (hx : ev ls vs x = some (.int k (.ofNat a))) (hy : ev ls vs y = some (.int k (.ofNat b))) (k1 : a ≠ b → WPo T O os (.bool true :: ls) vs h Q) (k2 : a = b → WPo T O os (.bool false :: ls) vs h Q) : WPo T O (⟨none, .bin .neq q x y⟩ :: os) ls vs h Q :=
  w_neq hx hy (fun e => k1 fun e' => e (by rw [e'])) (fun e => k2 (Int.ofNat.inj e))

theorem wrap_i64_nat {n : Nat} (h : n < 9223372036854775808) : IntKind.i64.wrap (Int.ofNat n) = Int.ofNat n := by
  have : Int.ofNat n = (n : Int) := rfl
  simp only [IntKind.wrap, IntKind.signed, IntKind.bits, Bool.true_and, ge_iff_le, decide_eq_true_eq]
  split <;> omega

theorem w_addN (hx : ev ls vs x = some (.int .i64 (.ofNat a))) (hy : ev ls vs y = some (.int .i64 (.ofNat b))) (hb : a + b < 9223372036854775808) (k1 : WPo T O os (.int .i64 (.ofNat (a + b)) :: ls) vs h Q) : WPo T O (⟨none, .bin .add q x y⟩ :: os) ls vs h Q :=
  w_add hx hy (wrap_i64_nat hb) k1
theorem w_subN (hx : ev ls vs x = some (.int .i64 (.ofNat a))) (hy : ev ls vs y = some (.int .i64 (.ofNat b))) (hb : b ≤ a) (ha : a < 9223372036854775808) (k1 : WPo T O os (.int .i64 (.ofNat (a - b)) :: ls) vs h Q) : WPo T O (⟨none, .bin .sub q x y⟩ :: os) ls vs h Q := by
  have e : Int.ofNat a - Int.ofNat b = Int.ofNat (a - b) := by
    show (a : Int) - (b : Int) = ((a - b : Nat) : Int)
    omega
  refine w_op (o_bin_v hx hy ?_) k1
  simp only [binV, if_true, intBin, e, wrap_i64_nat (show a - b < 9223372036854775808 by omega)]
end nat

/-- A region's end: the variables written out. -/
theorem w_end {T : Nat → Option AFunc} {O : CallF} {vs ls vs' : List V} {h : Heap} {N : Pred2} {outs : List (Nat × Nat)} (hv : outsV ls outs vs = some vs') (k : N vs' h) : WPo T O [] ls vs h (fun ls h' => ∃ vs'', outsV ls outs vs = some vs'' ∧ N vs'' h') :=
  w_nil ⟨vs', hv, k⟩

/-- A function's begin: the variables written out. -/
theorem w_fn' {T : Nat → Option AFunc} {O : CallF} {h : Heap} {f : Nat} {a : AFunc} {args vs0 : List V} {Q : V → Heap → Prop} (hO : O f args h = none) (hT : T f = some a) (hl : Nat.beq args.length a.nparams = true) (hv : initV a.slots args = vs0) (k : WPx T O a.code vs0 h (Rt a.res Q) [] (Rt a.res Q)) : WPc T O f args h Q := by
  subst hv
  exact w_fn hO hT hl k

/-- A function's end. -/
theorem w_rt {vs l : List V} {h : Heap} {rs : List ARes} {Q : V → Heap → Prop} (e : resV vs h rs = some l) (q : Q (packV l) h) : Rt rs Q vs h := ⟨l, e, q⟩

/-- A look again. -/
theorem w_chk1 {T : Nat → Option AFunc} {O : CallF} {vs ls : List V} {h : Heap} {Q : List V → Heap → Prop} {os : List AOp} {i : Nat} {a : Opd} {p x : V} {c : List V} (hi : nth ls i = some x) (ha : ev ls vs a = some p) (k : At h p (x :: c)) (hb : V.beq x x = true) (k1 : WPo T O os (.any :: ls) vs h Q) :
    WPo T O (⟨none, .chk i false 1 a⟩ :: os) ls vs h Q := by
  refine w_op ?_ k1
  show o_chk i false 1 a ls vs h = _
  simp only [o_chk, ha, hi, k.one, hb]

theorem w_chkA {T : Nat → Option AFunc} {O : CallF} {vs ls : List V} {h : Heap} {Q : List V → Heap → Prop} {os : List AOp} {i n : Nat} {a : Opd} {p : V} {c : List V} (hi : nth ls i = some (.agg (c.take n))) (ha : ev ls vs a = some p) (k : At h p c) (hn : n ≤ c.length) (hb : V.beqL (c.take n) (c.take n) = true) (k1 : WPo T O os (.any :: ls) vs h Q) :
    WPo T O (⟨none, .chk i true n a⟩ :: os) ls vs h Q := by
  refine w_op ?_ k1
  show o_chk i true n a ls vs h = _
  simp only [o_chk, ha, hi, k.agg hn, V.beq, hb]

/-- A place of an array of one's own. -/
theorem w_iadrA {T : Nat → Option AFunc} {O : CallF} {vs ls : List V} {h : Heap} {Q : List V → Heap → Prop} {os : List AOp} {len esz id off ver hi j : Nat} {x i : Opd} {k : IntKind} (hx : ev ls vs x = some (.ptr id off ver hi)) (hi' : ev ls vs i = some (.int k (.ofNat j))) (hj : j < len) (k1 : WPo T O os (.ptr id (off + j * esz) ver hi :: ls) vs h Q) :
    WPo T O (⟨none, .iadrA len esz x i⟩ :: os) ls vs h Q := by
  refine w_op ?_ k1
  show o_iadrA len esz x i ls vs h = _
  simp only [o_iadrA, hx, hi', idxNat, natOf, nblt.2 hj]

theorem w_rem {T : Nat → Option AFunc} {O : CallF} {vs ls : List V} {h : Heap} {Q : List V → Heap → Prop} {os : List AOp} {q : EqK} {x y : Opd} {k : IntKind} {a b : Int} (hx : ev ls vs x = some (.int k a)) (hy : ev ls vs y = some (.int k b)) (hb : b ≠ 0) (k1 : WPo T O os (.int k (a.tmod b) :: ls) vs h Q) : WPo T O (⟨none, .bin .rem q x y⟩ :: os) ls vs h Q :=
  w_op (o_bin_v hx hy (by simp only [binV, if_true, intBin, if_neg hb])) k1

theorem w_build {T : Nat → Option AFunc} {O : CallF} {vs ls : List V} {h : Heap} {Q : List V → Heap → Prop} {os : List AOp} {zero : List V} {parts : List (Nat × Nat × Opd)} {ps : List (Nat × Nat × V)} (cs : List V) (hp : evp ls vs parts = some ps) (hf : fillP zero ps = some cs) (k1 : WPo T O os (.agg cs :: ls) vs h Q) : WPo T O (⟨none, .build zero parts⟩ :: os) ls vs h Q := by
  refine w_op (v := .agg cs) (h1 := h) ?_ k1
  show o_build zero parts ls vs h = _
  simp only [o_build, hp, hf]

/-- A place out of any number. -/
theorem pick_range {n : Int} {L : Nat} (hL : 0 < L) : ∃ k : Nat, k < L ∧ (n.tmod (Int.ofNat L) + Int.ofNat L).tmod (Int.ofNat L) = Int.ofNat k := by
  have e : Int.ofNat L = (L : Int) := rfl
  have h1 : -(L : Int) < n.tmod L := Int.lt_tmod_of_pos n (by omega)
  have h2 : 0 ≤ n.tmod (L : Int) + L := by omega
  have h3 : (n.tmod L + L).tmod (L : Int) = (n.tmod L + L) % (L : Int) := Int.tmod_eq_emod_of_nonneg h2
  have h4 := Int.emod_nonneg (n.tmod L + L) (show (L : Int) ≠ 0 by omega)
  have h5 := Int.emod_lt_of_pos (n.tmod L + L) (show (0 : Int) < L by omega)
  refine ⟨((n.tmod L + L) % (L : Int)).toNat, by omega, ?_⟩
  rw [e, h3]
  show _ = ((_ : Nat) : Int)
  omega

theorem tmod_bound (n : Int) {L : Nat} (hL : 0 < L) : -(L : Int) < n.tmod (Int.ofNat L) ∧ n.tmod (Int.ofNat L) < L := by
  have e : Int.ofNat L = (L : Int) := rfl
  rw [e]
  exact ⟨Int.lt_tmod_of_pos n (by omega), Int.tmod_lt_of_pos n (by omega)⟩

/-- A loop that counts. -/
theorem w_count {T : Nat → Option AFunc} {O : CallF} {vs : List V} {h : Heap} {id : Nat} {b : AC} {N R : Pred2} {E : List (Nat × Pred2)} (I : Nat → Pred2) (n : Nat) (h0 : I 0 vs h)
    (hs : ∀ j vs h, j ≤ n → I j vs h → WPx T O b vs h (fun vs h => j < n ∧ I (j + 1) vs h) ((id, N) :: E) R) : WPx T O (.block id (.loop b)) vs h N E R := by
  refine w_block (w_loop (fun m vs h => ∃ j, j ≤ n ∧ m = n - j ∧ I j vs h) ?_ n vs h ⟨0, Nat.zero_le _, rfl, h0⟩)
  rintro m vs h ⟨j, hj, rfl, hI⟩
  exact (hs j vs h hj hI).mono (fun vs h ⟨h1, h2⟩ => ⟨n - (j + 1), by omega, j + 1, by omega, rfl, h2⟩) fun _ _ x => x

/-- Index times size, at a slot's pointer. -/
theorem wrap_i64_of {a : Int} (h : -9223372036854775808 ≤ a) (h2 : a ≤ 9223372036854775807) : IntKind.i64.wrap a = a := by
  simp only [IntKind.wrap, IntKind.signed, IntKind.bits, Bool.true_and, ge_iff_le, decide_eq_true_eq]
  split <;> omega

theorem ofNat_add1 (j : Nat) : Int.ofNat j + 1 = Int.ofNat (j + 1) := rfl

def InsC (c : List V) : Prop := ∃ o a b, c = [.int .u8 o, .int .i64 a, .int .i64 b]
def FnC (h : Heap) (c : List V) : Prop := ∃ nm p vs cs code, c = [.str nm, .int .i64 p, .int .i64 vs, cs] ∧ RS h 3 cs code ∧ (∀ i ∈ code, InsC i) ∧ code.length ≤ 2097152
def OnC (c : List V) : Prop := ∃ t p f, c = [.str t, .int .i64 p, .int .i64 f]
def PartC (h : Heap) (c : List V) : Prop := ∃ nm p os l, c = [.str nm, .int .i64 p, os] ∧ RS h 3 os l ∧ (∀ o ∈ l, OnC o) ∧ l.length ≤ 2097152
def ModC (h : Heap) (c : List V) : Prop := ∃ cs ts fs rs lc lt lf lr, c = [cs, ts, fs, rs] ∧ RS h 4 cs lc ∧ RS h 1 ts lt ∧ RS h 4 fs lf ∧ RS h 3 rs lr ∧ (∀ f ∈ lf, FnC h f) ∧ (∀ r ∈ lr, PartC h r) ∧
  lf.length ≤ 2097152 ∧ lr.length ≤ 2097152

theorem FnC.ext {h h' : Heap} (hE : Ext h h') {c : List V} (k : FnC h c) : FnC h' c := by
  obtain ⟨nm, p, vs, cs, code, e, hr, hc⟩ := k
  exact ⟨nm, p, vs, cs, code, e, hr.ext0 hE, hc⟩
theorem PartC.ext {h h' : Heap} (hE : Ext h h') {c : List V} (k : PartC h c) : PartC h' c := by
  obtain ⟨nm, p, os, l, e, hr, hc⟩ := k
  exact ⟨nm, p, os, l, e, hr.ext0 hE, hc⟩
theorem ModC.ext {h h' : Heap} (hE : Ext h h') {c : List V} (k : ModC h c) : ModC h' c := by
  obtain ⟨cs, ts, fs, rs, lc, lt, lf, lr, e, h1, h2, h3, h4, h5, h6, h7⟩ := k
  exact ⟨cs, ts, fs, rs, lc, lt, lf, lr, e, h1.ext0 hE, h2.ext0 hE, h3.ext0 hE, h4.ext0 hE, fun f hf => (h5 f hf).ext hE, fun r hr => (h6 r hr).ext hE, h7⟩

theorem wrap_u64_range (n : Int) : 0 ≤ IntKind.u64.wrap n ∧ IntKind.u64.wrap n < 18446744073709551616 := by
  simp only [IntKind.wrap, IntKind.signed, IntKind.bits, Bool.false_and, Bool.false_eq_true, if_false]
  omega

theorem isSl_one {v : V} (h : isSl v = true) : v.one = true := by cases v <;> first | rfl | cases h
theorem RS.one {h : Heap} {esz : Nat} {v : V} {l : List (List V)} (k : RS h esz v l) : v.one = true := isSl_one k.2.1

theorem allOne_of {c : List V} (h : ∀ v ∈ c, v.one = true) : allOne c = true := allOne_iff.2 h

theorem InsC.one {c : List V} (k : InsC c) : c.length = 3 ∧ allOne c = true := by
  obtain ⟨o, a, b, rfl⟩ := k
  exact ⟨rfl, rfl⟩
theorem FnC.one {h : Heap} {c : List V} (k : FnC h c) : c.length = 4 ∧ allOne c = true := by
  obtain ⟨nm, p, vs, cs, code, rfl, h1, _⟩ := k
  exact ⟨rfl, by have := h1.one; simp only [allOne, this]; rfl⟩
theorem PartC.one {h : Heap} {c : List V} (k : PartC h c) : c.length = 3 ∧ allOne c = true := by
  obtain ⟨nm, p, os, l, rfl, h1, _⟩ := k
  exact ⟨rfl, by have := h1.one; simp only [allOne, this]; rfl⟩
theorem ModC.one {h : Heap} {c : List V} (k : ModC h c) : c.length = 4 ∧ allOne c = true := by
  obtain ⟨cs, ts, fs, rs, lc, lt, lf, lr, rfl, h1, h2, h3, h4, _⟩ := k
  exact ⟨rfl, by simp only [allOne, h1.one, h2.one, h3.one, h4.one]⟩

end Am

/-
  Steps for a string's byte, a quotient, an empty map.
-/
namespace Am
open Go
set_option linter.unusedSimpArgs false
set_option linter.unusedVariables false
variable {T : Nat → Option AFunc} {O : CallF} {vs ls : List V} {h : Heap} {Q : List V → Heap → Prop} {os : List AOp}

theorem w_idxS {x i : Opd} {s : List UInt8} {k : IntKind} {j : Nat} (hx : ev ls vs x = some (.str s)) (hi : ev ls vs i = some (.int k (.ofNat j))) (hj : j < s.length) (k1 : WPo T O os (.int .u8 (Int.ofNat s[j].toNat) :: ls) vs h Q) : WPo T O (⟨none, .idxS x i⟩ :: os) ls vs h Q := by
  refine w_op (v := .int .u8 (Int.ofNat s[j].toNat)) (h1 := h) ?_ k1
  show o_idxS x i ls vs h = _
  simp only [o_idxS, hx, hi, natOf, nth_eq, List.getElem?_eq_getElem hj]

theorem w_quo {q : EqK} {x y : Opd} {k : IntKind} {a b : Int} (hx : ev ls vs x = some (.int k a)) (hy : ev ls vs y = some (.int k b)) (hb : b ≠ 0) (k1 : WPo T O os (.int k (k.wrap (a.tdiv b)) :: ls) vs h Q) : WPo T O (⟨none, .bin .quo q x y⟩ :: os) ls vs h Q :=
  w_op (o_bin_v hx hy (by simp only [binV, if_true, intBin, if_neg hb])) k1

theorem w_callA {f : Nat} {args : List Opd} (argv : List V) (e : evs ls vs args = some argv) (k1 : WPc T O f argv h (fun v h1 => WPo T O os (v :: ls) vs h1 Q)) : WPo T O (⟨none, .call f args⟩ :: os) ls vs h Q := w_call e k1

/-- An empty map of one's own. -/
def OwnM (h : Heap) (id : Nat) : Prop := id < h.n ∧ h.get id = some (.map [])
theorem OwnM.ext0 {h h' : Heap} {id : Nat} (hE : Ext h h') (k : OwnM h id) : OwnM h' id :=
  ⟨Nat.lt_of_lt_of_le k.1 hE.1, by rw [hE.2 id k.1 (by simp)]; exact k.2⟩

theorem w_mkM (k1 : ∀ id h', OwnM h' id → Ext h h' → WPo T O os (.map id :: ls) vs h' Q) : WPo T O (⟨none, .mkM⟩ :: os) ls vs h Q := by
  refine w_op (v := .map h.n) (h1 := h.alloc (.map [])) rfl (k1 _ _ ⟨Nat.lt_succ_self _, ?_⟩ ⟨Nat.le_succ _, fun j hj _ => ?_⟩)
  · rw [Heap.get_alloc, if_pos rfl]
  · rw [Heap.get_alloc, if_neg (by omega)]

theorem w_lookM {kk : KK} {zero : V} {m k : Opd} {id : Nat} {kv : V} (hm : ev ls vs m = some (.map id)) (hk : ev ls vs k = some kv) (hh : kk.has kv = true) (ho : OwnM h id) (k1 : WPo T O os (zero :: ls) vs h Q) : WPo T O (⟨none, .look kk zero false m k⟩ :: os) ls vs h Q := by
  refine w_op (v := zero) (h1 := h) ?_ k1
  show o_look kk zero false m k ls vs h = _
  simp only [o_look, hm, hk, lookV, hh, ho.2, findE, lookOut, keep]
end Am

/-
  Parts of slices.
-/
namespace Am
open Go
set_option linter.unusedSimpArgs false
set_option linter.unusedVariables false

theorem flatten_drop {esz : Nat} : ∀ {l : List (List V)} (k : Nat), (∀ c ∈ l, c.length = esz) → (l.drop k).flatten = l.flatten.drop (k * esz)
  | [], k, _ => by simp
  | c :: l, 0, _ => by simp
  | c :: l, k + 1, h => by
    rw [List.drop_succ_cons, flatten_drop k fun a ha => h a (by simp [ha]), List.flatten_cons, show (k + 1) * esz = c.length + k * esz by rw [h c (by simp), Nat.add_mul]; omega, List.drop_append, List.drop_of_length_le (show c.length ≤ c.length + k * esz by omega), Nat.add_sub_cancel_left, List.nil_append]
theorem flatten_take {esz : Nat} : ∀ {l : List (List V)} (k : Nat), (∀ c ∈ l, c.length = esz) → (l.take k).flatten = l.flatten.take (k * esz)
  | [], k, _ => by simp
  | c :: l, 0, _ => by simp
  | c :: l, k + 1, h => by
    rw [List.take_succ_cons, List.flatten_cons, flatten_take k fun a ha => h a (by simp [ha]), List.flatten_cons, show (k + 1) * esz = c.length + k * esz by rw [h c (by simp), Nat.add_mul]; omega, List.take_append, List.take_of_length_le (show c.length ≤ c.length + k * esz by omega), Nat.add_sub_cancel_left]

theorem slV_ok {h : Heap} {esz : Nat} {v : V} {l : List (List V)} {lo hi : Option V} {a b : Nat} (ho : Ow h esz v l) (hb : bnds l.length lo hi none = some (a, b, none)) (hab : a ≤ b) (hbl : b ≤ l.length) :
    ∃ v', slV esz v lo hi none = some v' ∧ Ow h esz v' ((l.take b).drop a) ∧ ∀ j ∈ slIds v', j ∈ slIds v := by
  rcases ho.2 with rfl | ⟨id, off, len, ver, full, cs, low, rfl, hg⟩
  · have hl0 : l = [] := by
      have := ho.1.1
      simp only [srcCells, Option.some.injEq, Prod.mk.injEq] at this
      exact List.eq_nil_of_length_eq_zero this.1.symm
    subst hl0
    simp only [List.length_nil] at hb
    refine ⟨.nils, by simp only [slV, hb], ?_, fun _ h => h⟩
    simp only [List.take_nil, List.drop_nil]
    exact Ow.nils _ _
  · obtain ⟨e1, _, e3, e4⟩ := ho.1
    simp only [srcCells, hg] at e1
    split at e1
    · rename_i hgd
      simp only [Bool.and_eq_true, nbeq] at hgd
      simp only [Option.some.injEq, Prod.mk.injEq] at e1
      obtain ⟨rfl, e1⟩ := e1
      have hgl := good_len hgd.1
      have hbe : Nat.beq esz esz = true := nbeq.2 rfl
      have hm1 : b * esz ≤ l.length * esz := Nat.mul_le_mul_right esz hbl
      have hm2 : a * esz + (b - a) * esz = b * esz := by rw [← Nat.add_mul]; congr 1; omega
      have hln : ((l.take b).drop a).length = b - a := by rw [List.length_drop, List.length_take]; omega
      refine ⟨.sl id (off + a * esz) (b - a) ver esz (fullOf none b l.length full), by simp only [slV, hbe, hb], ⟨⟨?_, rfl, e3, fun c hc => e4 c (List.mem_of_mem_take (List.mem_of_mem_drop hc))⟩, .inr ⟨id, _, _, ver, _, cs, low, rfl, hg⟩⟩, fun _ h => h⟩
      simp only [srcCells, hg, hln]
      rw [good_refl (by omega), hbe]
      simp only [Bool.and_self, Option.some.injEq, Prod.mk.injEq, true_and]
      rw [flatten_drop a fun c hc => e4 c (List.mem_of_mem_take hc), flatten_take b e4, ← e1, List.take_take, Nat.min_eq_left hm1, ← List.drop_drop]
      rw [List.drop_take]
      congr 1
      omega
    · cases e1

section rules
variable {T : Nat → Option AFunc} {O : CallF} {vs ls : List V} {h : Heap} {Q : List V → Heap → Prop} {os : List AOp}

/-- From a place on. -/
theorem w_slLo {esz k : Nat} {x i : Opd} {kk : IntKind} {v : V} {l : List (List V)} (hx : ev ls vs x = some v) (hi : ev ls vs i = some (.int kk (.ofNat k))) (ho : Ow h esz v l) (hk : k ≤ l.length)
    (k1 : ∀ v', Ow h esz v' (l.drop k) → (∀ j ∈ slIds v', j ∈ slIds v) → WPo T O os (v' :: ls) vs h Q) : WPo T O (⟨none, .slL esz x (some i) none none⟩ :: os) ls vs h Q := by
  obtain ⟨v', e1, e2, e3⟩ := slV_ok (lo := some (.int kk (.ofNat k))) (hi := none) (a := k) (b := l.length) ho (by
    have b1 : Nat.ble k l.length = true := nble.2 hk
    have b2 : Nat.ble l.length l.length = true := nble.2 (Nat.le_refl _)
    simp only [bnds, natOf, b1, Option.getD_none, b2, Bool.and_self]) hk (Nat.le_refl _)
  rw [List.take_length] at e2
  refine w_op (v := v') (h1 := h) ?_ (k1 v' e2 e3)
  show o_slL esz x (some i) none none ls vs h = _
  simp only [o_slL, hx, evo, hi, e1, keep]

/-- Up to a place. -/
theorem w_slHi {esz k : Nat} {x i : Opd} {kk : IntKind} {v : V} {l : List (List V)} (hx : ev ls vs x = some v) (hi : ev ls vs i = some (.int kk (.ofNat k))) (ho : Ow h esz v l) (hk : k ≤ l.length)
    (k1 : ∀ v', Ow h esz v' (l.take k) → (∀ j ∈ slIds v', j ∈ slIds v) → WPo T O os (v' :: ls) vs h Q) : WPo T O (⟨none, .slL esz x none (some i) none⟩ :: os) ls vs h Q := by
  obtain ⟨v', e1, e2, e3⟩ := slV_ok (lo := none) (hi := some (.int kk (.ofNat k))) (a := 0) (b := k) ho (by
    have b1 : Nat.ble k l.length = true := nble.2 hk
    have b2 : Nat.ble 0 k = true := nble.2 (Nat.zero_le _)
    simp only [bnds, natOf, b1, Option.getD_none, b2, Bool.and_self]) (Nat.zero_le _) hk
  rw [List.drop_zero] at e2
  refine w_op (v := v') (h1 := h) ?_ (k1 v' e2 e3)
  show o_slL esz x none (some i) none ls vs h = _
  simp only [o_slL, hx, evo, hi, e1, keep]
end rules
end Am

/-
  Products of 64 bits: the upper and the lower half; when a signed product is too great.
-/
namespace Am
open Go
set_option linter.unusedSimpArgs false
set_option linter.unusedVariables false

theorem wrap_u64 (x : Int) : IntKind.u64.wrap x = x % 18446744073709551616 := by
  simp only [IntKind.wrap, IntKind.signed, IntKind.bits, Bool.false_and, Bool.false_eq_true, if_false]
  rfl
theorem wrap_i64_eq (x : Int) : IntKind.i64.wrap x = if x % 18446744073709551616 ≥ 9223372036854775808 then x % 18446744073709551616 - 18446744073709551616 else x % 18446744073709551616 := by
  simp only [IntKind.wrap, IntKind.signed, IntKind.bits, Bool.true_and, ge_iff_le, decide_eq_true_eq]
  rfl

theorem and_mask {x : Int} (h0 : 0 ≤ x) (h1 : x < 18446744073709551616) : IntKind.u64.wrap (BitVec.ofInt IntKind.u64.bits x &&& BitVec.ofInt IntKind.u64.bits 4294967295).toNat = x % 4294967296 := by
  obtain ⟨n, rfl⟩ := Int.eq_ofNat_of_zero_le h0
  have hn : n < 18446744073709551616 := by omega
  have e1 : BitVec.ofInt IntKind.u64.bits (n : Int) = BitVec.ofNat 64 n := BitVec.ofInt_natCast 64 n
  have e2 : BitVec.ofInt IntKind.u64.bits 4294967295 = BitVec.ofNat 64 4294967295 := rfl
  rw [e1, e2, wrap_u64]
  have e3 : (BitVec.ofNat 64 n &&& BitVec.ofNat 64 4294967295).toNat = n % 4294967296 := by
    rw [BitVec.toNat_and, BitVec.toNat_ofNat, BitVec.toNat_ofNat]
    rw [Nat.mod_eq_of_lt (show n < 2 ^ 64 by omega)]
    exact Nat.and_two_pow_sub_one_eq_mod n 32
  have e4 : ((BitVec.ofNat IntKind.u64.bits n &&& BitVec.ofNat IntKind.u64.bits 4294967295).toNat) = n % 4294967296 := e3
  show (((BitVec.ofNat 64 n &&& BitVec.ofNat 64 4294967295).toNat : Nat) : Int) % _ = _
  rw [e3]
  omega

/-- The halves of a product, by halves. -/
theorem halves {x y a b c d : Int} (x0 : Int) (x1 : Int) (y0 : Int) (y1 : Int) (hx : x = x1 * 4294967296 + x0) (hy : y = y1 * 4294967296 + y0) (ha : a = x0 * y0) (hb : b = x1 * y0) (hc : c = x0 * y1) (hd : d = x1 * y1) : x * y = d * 18446744073709551616 + (b + c) * 4294967296 + a := by
  subst hx hy ha hb hc hd
  simp only [Int.add_mul, Int.mul_add]
  have e1 : x1 * 4294967296 * (y1 * 4294967296) = x1 * y1 * 18446744073709551616 := by
    rw [Int.mul_assoc, Int.mul_left_comm 4294967296 y1, ← Int.mul_assoc]; rfl
  have e2 : x1 * 4294967296 * y0 = x1 * y0 * 4294967296 := by rw [Int.mul_assoc, Int.mul_comm 4294967296 y0, ← Int.mul_assoc]
  have e3 : x0 * (y1 * 4294967296) = x0 * y1 * 4294967296 := by rw [Int.mul_assoc]
  rw [e1, e2, e3]
  omega

/-- A signed product's upper half. -/
theorem signed_hi {a b p P : Int} (ha : i64 a) (hb : i64 b) (hp : p = a * b) (hP : P = (a % 18446744073709551616) * (b % 18446744073709551616)) :
    P % 18446744073709551616 = p % 18446744073709551616 ∧ (P / 18446744073709551616 - (if a < 0 then b else 0) - (if b < 0 then a else 0) - p / 18446744073709551616) % 18446744073709551616 = 0 := by
  obtain ⟨a1, a2⟩ := ha
  obtain ⟨b1, b2⟩ := hb
  have ea : a % 18446744073709551616 = a + (if a < 0 then 18446744073709551616 else 0) := by split <;> omega
  have eb : b % 18446744073709551616 = b + (if b < 0 then 18446744073709551616 else 0) := by split <;> omega
  rw [ea, eb] at hP
  by_cases h1 : a < 0 <;> by_cases h2 : b < 0 <;> simp only [h1, h2, if_true, if_false, Int.add_zero] at hP ⊢
  · have : P = p + 18446744073709551616 * a + 18446744073709551616 * b + 18446744073709551616 * 18446744073709551616 := by
      rw [hP, hp, Int.add_mul, Int.mul_add, Int.mul_add, Int.mul_comm a 18446744073709551616]; omega
    omega
  · have : P = p + 18446744073709551616 * b := by rw [hP, hp, Int.add_mul]
    omega
  · have : P = p + 18446744073709551616 * a := by rw [hP, hp, Int.mul_add, Int.mul_comm a 18446744073709551616]
    omega
  · have : P = p := by rw [hP, hp]
    omega

/-- Is a signed product too great? -/
theorem mul_over {p s n : Int} (hs : s = p / 18446744073709551616) (hn : n = IntKind.i64.wrap p) : (s ≠ n.fdiv (2 ^ 63)) ↔ (p < -9223372036854775808 ∨ 9223372036854775807 < p) := by
  rw [wrap_i64_eq] at hn
  have hd : n.fdiv (2 ^ 63) = n / 9223372036854775808 := by
    rw [Int.fdiv_eq_ediv_of_nonneg n (show (0 : Int) ≤ 2 ^ 63 by decide)]
    rfl
  rw [hd]
  split at hn <;> omega

theorem wrap_sub (x y : Int) : IntKind.i64.wrap (IntKind.i64.wrap x - y) = IntKind.i64.wrap (x - y) := by
  rw [wrap_i64_eq x, wrap_i64_eq, wrap_i64_eq (x - y)]
  split <;> (try split) <;> (try split) <;> omega
theorem wrap_to {X y : Int} (h : (X - y) % 18446744073709551616 = 0) (hr : i64 y) : IntKind.i64.wrap X = y := by
  obtain ⟨h1, h2⟩ := hr
  rw [wrap_i64_eq]
  split <;> omega
theorem wrap_mod {P p : Int} (h : P % 18446744073709551616 = p % 18446744073709551616) : IntKind.i64.wrap (P % 18446744073709551616) = IntKind.i64.wrap p := by
  rw [wrap_i64_eq, wrap_i64_eq, Int.emod_emod_of_dvd P (Int.dvd_refl _), h]
theorem prod_range {a b : Int} (ha : i64 a) (hb : i64 b) : i64 ((a * b) / 18446744073709551616) := by
  obtain ⟨a1, a2⟩ := ha
  obtain ⟨b1, b2⟩ := hb
  have h1 := Int.natAbs_mul a b
  have h2 : a.natAbs * b.natAbs ≤ 9223372036854775808 * 9223372036854775808 := Nat.mul_le_mul (by omega) (by omega)
  generalize a.natAbs * b.natAbs = m at *
  generalize a * b = p at *
  unfold i64
  omega

section rules
variable {T : Nat → Option AFunc} {O : CallF} {vs ls : List V} {h : Heap} {Q : List V → Heap → Prop} {os : List AOp} {q : EqK} {x y : Opd} {a b : Int}

theorem w_mask (hx : ev ls vs x = some (.int .u64 a)) (hy : ev ls vs y = some (.int .u64 4294967295)) (h0 : 0 ≤ a) (h1 : a < 18446744073709551616) (k1 : WPo T O os (.int .u64 (a % 4294967296) :: ls) vs h Q) : WPo T O (⟨none, .bin .and q x y⟩ :: os) ls vs h Q :=
  w_op (o_bin_v hx hy (by simp only [binV, if_true, intBin, and_mask h0 h1])) k1
theorem w_shr32 (hx : ev ls vs x = some (.int .u64 a)) (hy : ev ls vs y = some (.int .u64 32)) (k1 : WPo T O os (.int .u64 (a / 4294967296) :: ls) vs h Q) : WPo T O (⟨none, .bin .shr q x y⟩ :: os) ls vs h Q :=
  w_op (o_bin_v hx hy (by
    have e : a.fdiv 4294967296 = a / 4294967296 := Int.fdiv_eq_ediv_of_nonneg a (by decide)
    simp only [binV]
    show (if (32 : Int) < 0 then none else some (V.int .u64 (a.fdiv 4294967296))) = _
    rw [if_neg (by decide), e])) k1
theorem w_mulU (hx : ev ls vs x = some (.int .u64 a)) (hy : ev ls vs y = some (.int .u64 b)) (h0 : 0 ≤ a * b) (h1 : a * b < 18446744073709551616) (k1 : WPo T O os (.int .u64 (a * b) :: ls) vs h Q) : WPo T O (⟨none, .bin .mul q x y⟩ :: os) ls vs h Q :=
  w_op (o_bin_v hx hy (by simp only [binV, if_true, intBin, wrap_u64, Int.emod_eq_of_lt h0 h1])) k1
theorem w_mulW (hx : ev ls vs x = some (.int .u64 a)) (hy : ev ls vs y = some (.int .u64 b)) (k1 : WPo T O os (.int .u64 (a * b % 18446744073709551616) :: ls) vs h Q) : WPo T O (⟨none, .bin .mul q x y⟩ :: os) ls vs h Q :=
  w_op (o_bin_v hx hy (by simp only [binV, if_true, intBin, wrap_u64])) k1
theorem w_addU (hx : ev ls vs x = some (.int .u64 a)) (hy : ev ls vs y = some (.int .u64 b)) (h0 : 0 ≤ a + b) (h1 : a + b < 18446744073709551616) (k1 : WPo T O os (.int .u64 (a + b) :: ls) vs h Q) : WPo T O (⟨none, .bin .add q x y⟩ :: os) ls vs h Q :=
  w_op (o_bin_v hx hy (by simp only [binV, if_true, intBin, wrap_u64, Int.emod_eq_of_lt h0 h1])) k1
theorem w_addW (hx : ev ls vs x = some (.int .i64 a)) (hy : ev ls vs y = some (.int .i64 b)) (k1 : WPo T O os (.int .i64 (IntKind.i64.wrap (a + b)) :: ls) vs h Q) : WPo T O (⟨none, .bin .add q x y⟩ :: os) ls vs h Q :=
  w_op (o_bin_v hx hy (by simp only [binV, if_true, intBin])) k1
theorem w_subW (hx : ev ls vs x = some (.int .i64 a)) (hy : ev ls vs y = some (.int .i64 b)) (k1 : WPo T O os (.int .i64 (IntKind.i64.wrap (a - b)) :: ls) vs h Q) : WPo T O (⟨none, .bin .sub q x y⟩ :: os) ls vs h Q :=
  w_op (o_bin_v hx hy (by simp only [binV, if_true, intBin])) k1
theorem w_xorX (hx : ev ls vs x = some (.int .i64 a)) (hy : ev ls vs y = some (.int .i64 b)) (k1 : WPo T O os (.int .i64 (IntKind.i64.wrap ((BitVec.ofInt 64 a ^^^ BitVec.ofInt 64 b).toNat : Int)) :: ls) vs h Q) : WPo T O (⟨none, .bin .xor q x y⟩ :: os) ls vs h Q :=
  w_op (o_bin_v hx hy (by simp only [binV, if_true, intBin]; rfl)) k1
theorem w_andX (hx : ev ls vs x = some (.int .i64 a)) (hy : ev ls vs y = some (.int .i64 b)) (k1 : WPo T O os (.int .i64 (IntKind.i64.wrap ((BitVec.ofInt 64 a &&& BitVec.ofInt 64 b).toNat : Int)) :: ls) vs h Q) : WPo T O (⟨none, .bin .and q x y⟩ :: os) ls vs h Q :=
  w_op (o_bin_v hx hy (by simp only [binV, if_true, intBin]; rfl)) k1
theorem w_shr63 (hx : ev ls vs x = some (.int .i64 a)) (hy : ev ls vs y = some (.int .u64 63)) (k1 : WPo T O os (.int .i64 (a.fdiv (2 ^ 63)) :: ls) vs h Q) : WPo T O (⟨none, .bin .shr q x y⟩ :: os) ls vs h Q :=
  w_op (o_bin_v hx hy (by
    simp only [binV]
    show (if (63 : Int) < 0 then none else some (V.int .i64 (a.fdiv (2 ^ 63)))) = _
    rw [if_neg (by decide)])) k1
theorem w_quoW (hx : ev ls vs x = some (.int .i64 a)) (hy : ev ls vs y = some (.int .i64 b)) (hb : b ≠ 0) (k1 : WPo T O os (.int .i64 (IntKind.i64.wrap (a.tdiv b)) :: ls) vs h Q) : WPo T O (⟨none, .bin .quo q x y⟩ :: os) ls vs h Q :=
  w_op (o_bin_v hx hy (by simp only [binV, if_true, intBin, if_neg hb])) k1
theorem w_remW (hx : ev ls vs x = some (.int .i64 a)) (hy : ev ls vs y = some (.int .i64 b)) (hb : b ≠ 0) (k1 : WPo T O os (.int .i64 (a.tmod b) :: ls) vs h Q) : WPo T O (⟨none, .bin .rem q x y⟩ :: os) ls vs h Q :=
  w_op (o_bin_v hx hy (by simp only [binV, if_true, intBin, if_neg hb])) k1
end rules
theorem mul_bound {a b : Int} (h0 : 0 ≤ a) (h1 : a ≤ 4294967295) (h2 : 0 ≤ b) (h3 : b ≤ 4294967295) : 0 ≤ a * b ∧ a * b ≤ 18446744065119617025 :=
  ⟨Int.mul_nonneg h0 h2, Int.le_trans (Int.mul_le_mul h1 h3 h2 (by decide)) (by decide)⟩
/-- A load of an object of one's own, by its place. -/
theorem w_fl {T : Nat → Option AFunc} {O : CallF} {vs ls : List V} {h : Heap} {Q : List V → Heap → Prop} {os : List AOp} {d hi id : Nat} {x : Opd} {cs : List V} {v : V} (hx : ev ls vs x = some (.ptr id d 0 hi)) (ho : Own h id cs) (hv : nth cs d = some v) (hd : Nat.blt d hi = true) (hl : cs.length = hi)
    (k1 : WPo T O os (v :: ls) vs h Q) : WPo T O (⟨none, .load false 1 x⟩ :: os) ls vs h Q := by
  have hd := nblt.1 hd
  have hA := (ho.at hl).fadr (d := d) (by omega)
  have hc : cs.drop d = v :: cs.drop (d + 1) := by
    rw [nth_eq] at hv
    obtain ⟨h1, h2⟩ := List.getElem?_eq_some_iff.1 hv
    rw [List.drop_eq_getElem_cons h1, h2]
  rw [hc] at hA
  have e : V.ptr id d 0 hi = padd (.ptr id 0 0 hi) d := by simp only [padd, Nat.zero_add]
  exact w_load1 (p := padd (.ptr id 0 0 hi) d) (by rw [hx, e]) hA rfl k1
end Am

/-
  Numbers' bytes, and what is put together of them: what is written is read again, and what is read is written again.
-/
namespace Am
set_option linter.unusedSimpArgs false
set_option linter.unusedVariables false

/-- A number's bytes. -/
def encU : Nat → Nat → List Nat
  | 0, n => [n]
  | k + 1, n => if n < 128 then [n] else (n % 128 + 128) :: encU k (n / 128)

/-- A number of bytes, and what is behind them. -/
def dU : Nat → Bool → List Nat → Option (Nat × List Nat)
  | 0, _, [] => none
  | _ + 1, _, [] => none
  | 0, fst, x :: r => if 1 < x ∨ (x = 0 ∧ fst = false) then none else some (x, r)
  | k + 1, fst, x :: r => if x = 0 ∧ fst = false then none else if x < 128 then some (x, r) else
    match dU k false r with
    | some (m, r') => some (x - 128 + 128 * m, r')
    | none => none

theorem dU_nil (k : Nat) (f : Bool) : dU k f [] = none := by cases k <;> rfl

theorem dU_enc : ∀ (k n : Nat) (f : Bool) (r : List Nat), n < 128 ^ k * 2 → (f = true ∨ n ≠ 0) → dU k f (encU k n ++ r) = some (n, r)
  | 0, n, f, r, h, hf => by
    simp only [encU, List.cons_append, List.nil_append, dU]
    rw [if_neg]
    rintro (h1 | ⟨h1, h2⟩)
    · simp at h; omega
    · rcases hf with hf | hf
      · rw [hf] at h2; cases h2
      · exact hf h1
  | k + 1, n, f, r, h, hf => by
    unfold encU
    by_cases hn : n < 128
    · rw [if_pos hn]
      simp only [List.cons_append, List.nil_append, dU]
      rw [if_neg, if_pos hn]
      rintro ⟨h1, h2⟩
      rcases hf with hf | hf
      · rw [hf] at h2; cases h2
      · exact hf h1
    · rw [if_neg hn]
      simp only [List.cons_append, dU]
      have hk : n / 128 < 128 ^ k * 2 := by
        rw [Nat.pow_succ] at h
        omega
      rw [if_neg (by omega), if_neg (by omega), dU_enc k (n / 128) false r hk (.inr (by omega))]
      simp only [Option.some.injEq, Prod.mk.injEq, and_true]
      omega

theorem dU_dec : ∀ (k : Nat) (f : Bool) (l : List Nat) (n : Nat) (r : List Nat), (∀ x ∈ l, x < 256) → dU k f l = some (n, r) → l = encU k n ++ r ∧ n < 128 ^ k * 2 ∧ (f = false → n ≠ 0)
  | k, f, [], n, r, _, h => by rw [dU_nil] at h; cases h
  | 0, f, x :: l, n, r, hb, h => by
    simp only [dU] at h
    split at h
    · cases h
    · rename_i hc
      simp only [Option.some.injEq, Prod.mk.injEq] at h
      obtain ⟨rfl, rfl⟩ := h
      exact ⟨rfl, by simp; omega, fun hf e => hc (.inr ⟨e, hf⟩)⟩
  | k + 1, f, x :: l, n, r, hb, h => by
    simp only [dU] at h
    split at h
    · cases h
    · rename_i hc
      split at h
      · rename_i hx
        simp only [Option.some.injEq, Prod.mk.injEq] at h
        obtain ⟨rfl, rfl⟩ := h
        have hp : 0 < 128 ^ k := Nat.pow_pos (by decide)
        exact ⟨by simp [encU, hx], by rw [Nat.pow_succ]; omega, fun hf e => hc ⟨e, hf⟩⟩
      · rename_i hx
        split at h
        · rename_i m r' hd
          simp only [Option.some.injEq, Prod.mk.injEq] at h
          obtain ⟨rfl, rfl⟩ := h
          obtain ⟨h1, h2, h3⟩ := dU_dec k false l m r' (fun y hy => hb y (by simp [hy])) hd
          have h3 := h3 rfl
          have hx2 := hb x (by simp)
          refine ⟨?_, by rw [Nat.pow_succ]; omega, by omega⟩
          rw [encU, if_neg (by omega), show (x - 128 + 128 * m) % 128 + 128 = x by omega, show (x - 128 + 128 * m) / 128 = m by omega, h1]
          rfl
        · cases h

theorem encU_byte : ∀ (k n : Nat), n < 128 ^ k * 2 → ∀ x ∈ encU k n, x < 256
  | 0, n, h, x, hx => by simp [encU] at hx; simp at h; omega
  | k + 1, n, h, x, hx => by
    unfold encU at hx
    split at hx
    · simp at hx; omega
    · rcases List.mem_cons.1 hx with rfl | hx
      · omega
      · refine encU_byte k (n / 128) ?_ x hx
        rw [Nat.pow_succ] at h
        omega

theorem encU_len : ∀ (k n : Nat), 1 ≤ (encU k n).length ∧ (encU k n).length ≤ k + 1
  | 0, _ => by simp [encU]
  | k + 1, n => by
    unfold encU
    split
    · simp
    · have := encU_len k (n / 128); simp; omega

abbrev Bytes (l : List Nat) : Prop := ∀ x ∈ l, x < 256

/-- How a thing is written and read. -/
structure Cod (α : Type) where
  enc : α → List Nat
  dec : List Nat → Option (α × List Nat)
  ok : α → Prop
  byt : ∀ a, ok a → Bytes (enc a)
  ed : ∀ a r, ok a → dec (enc a ++ r) = some (a, r)
  de : ∀ l a r, Bytes l → dec l = some (a, r) → ok a ∧ l = enc a ++ r

theorem Bytes.left {a b : List Nat} (h : Bytes (a ++ b)) : Bytes a := fun x hx => h x (by simp [hx])
theorem Bytes.right {a b : List Nat} (h : Bytes (a ++ b)) : Bytes b := fun x hx => h x (by simp [hx])
theorem Bytes.append {a b : List Nat} (h : Bytes a) (k : Bytes b) : Bytes (a ++ b) := fun x hx => (List.mem_append.1 hx).elim (h x) (k x)

/-- What is read leaves bytes. -/
theorem Cod.rest {α : Type} (c : Cod α) {l : List Nat} {a : α} {r : List Nat} (h : Bytes l) (e : c.dec l = some (a, r)) : Bytes r := by
  obtain ⟨_, rfl⟩ := c.de l a r h e
  exact h.right
theorem Cod.len {α : Type} (c : Cod α) {l : List Nat} {a : α} {r : List Nat} (h : Bytes l) (e : c.dec l = some (a, r)) : r.length ≤ l.length := by
  obtain ⟨_, rfl⟩ := c.de l a r h e
  simp

/-- What is read, made something of. -/
def dMap {α β : Type} (f : α → Option β) : Option (α × List Nat) → Option (β × List Nat)
  | none => none
  | some (a, r) => match f a with
    | none => none
    | some b => some (b, r)

/-- A number from 0 to the most. -/
def cNum (most : Nat) (hm : most < 18446744073709551616) : Cod Int where
  enc a := encU 9 a.toNat
  dec l := dMap (fun n => if n ≤ most then some (Int.ofNat n) else none) (dU 9 true l)
  ok a := 0 ≤ a ∧ a ≤ Int.ofNat most
  byt a h := encU_byte 9 a.toNat (by have := h.2; have e : Int.ofNat most = (most : Int) := rfl; simp; omega)
  ed a r h := by
    have e : Int.ofNat most = (most : Int) := rfl
    rw [dU_enc 9 a.toNat true r (by simp; omega) (.inl rfl)]
    simp only [dMap]
    rw [if_pos (by omega)]
    simp only [Option.some.injEq, Prod.mk.injEq, and_true]
    show ((a.toNat : Nat) : Int) = a
    omega
  de l a r hb h := by
    cases hd : dU 9 true l with
    | none => rw [hd] at h; cases h
    | some x =>
      obtain ⟨n, r'⟩ := x
      rw [hd] at h
      simp only [dMap] at h
      by_cases hn : n ≤ most
      · rw [if_pos hn] at h
        simp only [Option.some.injEq, Prod.mk.injEq] at h
        obtain ⟨rfl, rfl⟩ := h
        obtain ⟨h1, h2, _⟩ := dU_dec 9 true l n r' hb hd
        refine ⟨⟨Int.natCast_nonneg n, Int.ofNat_le.2 hn⟩, ?_⟩
        rw [h1]; rfl
      · rw [if_neg hn] at h; cases h

/-- A signed number as one without a sign. -/
def zig (e : Int) : Nat := if e < 0 then (-2 * e - 1).toNat else (2 * e).toNat
def zag (n : Nat) : Int := if n % 2 = 0 then Int.ofNat (n / 2) else -(Int.ofNat (n / 2)) - 1

theorem zag_zig (e : Int) : zag (zig e) = e := by
  unfold zag zig
  have c : ∀ n : Nat, Int.ofNat n = (n : Int) := fun _ => rfl
  simp only [c]
  split <;> split <;> omega
theorem zig_zag (n : Nat) : zig (zag n) = n := by
  unfold zag zig
  have c : ∀ n : Nat, Int.ofNat n = (n : Int) := fun _ => rfl
  simp only [c]
  split <;> split <;> omega

/-- A number from -1 to the most. -/
def cExit (most : Nat) (hm : most < 4611686018427387904) : Cod Int where
  enc a := encU 9 (zig a)
  dec l := dMap (fun n => if -1 ≤ zag n ∧ zag n ≤ Int.ofNat most then some (zag n) else none) (dU 9 true l)
  ok a := -1 ≤ a ∧ a ≤ Int.ofNat most
  byt a h := encU_byte 9 (zig a) (by
    have := h.2; have e : Int.ofNat most = (most : Int) := rfl
    unfold zig; simp; split <;> omega)
  ed a r h := by
    have e : Int.ofNat most = (most : Int) := rfl
    rw [dU_enc 9 (zig a) true r (by unfold zig; simp; split <;> omega) (.inl rfl)]
    simp only [dMap]
    rw [zag_zig, if_pos h]
  de l a r hb h := by
    cases hd : dU 9 true l with
    | none => rw [hd] at h; cases h
    | some x =>
      obtain ⟨n, r'⟩ := x
      rw [hd] at h
      simp only [dMap] at h
      by_cases hn : -1 ≤ zag n ∧ zag n ≤ Int.ofNat most
      · rw [if_pos hn] at h
        simp only [Option.some.injEq, Prod.mk.injEq] at h
        obtain ⟨rfl, rfl⟩ := h
        obtain ⟨h1, h2, _⟩ := dU_dec 9 true l n r' hb hd
        refine ⟨hn, ?_⟩
        rw [h1, zig_zag]
      · rw [if_neg hn] at h; cases h

/-- One behind the other. -/
def dSeq {α β : Type} (f : List Nat → Option (α × List Nat)) (g : List Nat → Option (β × List Nat)) (l : List Nat) : Option ((α × β) × List Nat) :=
  match f l with
  | none => none
  | some (a, r) => match g r with
    | none => none
    | some (b, r') => some ((a, b), r')

def cSeq {α β : Type} (c : Cod α) (d : Cod β) : Cod (α × β) where
  enc x := c.enc x.1 ++ d.enc x.2
  dec := dSeq c.dec d.dec
  ok x := c.ok x.1 ∧ d.ok x.2
  byt x h := (c.byt _ h.1).append (d.byt _ h.2)
  ed x r h := by
    simp only [dSeq, List.append_assoc, c.ed x.1 _ h.1, d.ed x.2 r h.2]
  de l x r hb h := by
    simp only [dSeq] at h
    cases h1 : c.dec l with
    | none => rw [h1] at h; cases h
    | some y =>
      obtain ⟨a, r1⟩ := y
      rw [h1] at h
      simp only at h
      cases h2 : d.dec r1 with
      | none => rw [h2] at h; cases h
      | some z =>
        obtain ⟨b, r2⟩ := z
        rw [h2] at h
        simp only [Option.some.injEq, Prod.mk.injEq] at h
        obtain ⟨rfl, rfl⟩ := h
        obtain ⟨k1, rfl⟩ := c.de l a r1 hb h1
        obtain ⟨k2, rfl⟩ := d.de r1 b r2 hb.right h2
        exact ⟨⟨k1, k2⟩, by simp⟩

/-- So many of them. -/
def encL {α : Type} (f : α → List Nat) : List α → List Nat
  | [] => []
  | a :: l => f a ++ encL f l
def dRep {α : Type} (f : List Nat → Option (α × List Nat)) : Nat → List Nat → Option (List α × List Nat)
  | 0, l => some ([], l)
  | n + 1, l => match f l with
    | none => none
    | some (a, r) => match dRep f n r with
      | none => none
      | some (as, r') => some (a :: as, r')

theorem encL_append {α : Type} (f : α → List Nat) : ∀ (a b : List α), encL f (a ++ b) = encL f a ++ encL f b
  | [], b => rfl
  | x :: a, b => by simp only [List.cons_append, encL, encL_append f a b, List.append_assoc]

theorem dRep_enc {α : Type} (c : Cod α) : ∀ (l : List α) (r : List Nat), (∀ a ∈ l, c.ok a) → dRep c.dec l.length (encL c.enc l ++ r) = some (l, r)
  | [], r, _ => rfl
  | a :: l, r, h => by
    simp only [List.length_cons, encL, dRep, List.append_assoc, c.ed a _ (h a (by simp)), dRep_enc c l r fun x hx => h x (by simp [hx])]

theorem dRep_dec {α : Type} (c : Cod α) : ∀ (n : Nat) (l : List Nat) (as : List α) (r : List Nat), Bytes l → dRep c.dec n l = some (as, r) → as.length = n ∧ (∀ a ∈ as, c.ok a) ∧ l = encL c.enc as ++ r
  | 0, l, as, r, _, h => by
    simp only [dRep, Option.some.injEq, Prod.mk.injEq] at h
    obtain ⟨rfl, rfl⟩ := h
    exact ⟨rfl, by simp, rfl⟩
  | n + 1, l, as, r, hb, h => by
    simp only [dRep] at h
    cases h1 : c.dec l with
    | none => rw [h1] at h; cases h
    | some y =>
      obtain ⟨a, r1⟩ := y
      rw [h1] at h
      simp only at h
      cases h2 : dRep c.dec n r1 with
      | none => rw [h2] at h; cases h
      | some z =>
        obtain ⟨bs, r2⟩ := z
        rw [h2] at h
        simp only [Option.some.injEq, Prod.mk.injEq] at h
        obtain ⟨rfl, rfl⟩ := h
        obtain ⟨k1, rfl⟩ := c.de l a r1 hb h1
        obtain ⟨k2, k3, rfl⟩ := dRep_dec c n r1 bs r2 hb.right h2
        refine ⟨by simp [k2], fun x hx => ?_, by simp [encL]⟩
        rcases List.mem_cons.1 hx with rfl | hx
        · exact k1
        · exact k3 x hx

/-- A list: how many, and each. -/
def cList {α : Type} (c : Cod α) (most : Nat) (hm : most < 18446744073709551616) : Cod (List α) where
  enc l := encU 9 l.length ++ encL c.enc l
  dec l := match (cNum most hm).dec l with
    | none => none
    | some (n, r) => dRep c.dec n.toNat r
  ok l := l.length ≤ most ∧ ∀ a ∈ l, c.ok a
  byt l h := by
    refine Bytes.append (encU_byte 9 l.length (by have := h.1; simp; omega)) ?_
    have h2 := h.2
    clear h
    induction l with
    | nil => intro x hx; cases hx
    | cons a l ih => exact (c.byt a (h2 a (by simp))).append (ih fun x hx => h2 x (by simp [hx]))
  ed l r h := by
    have h1 := (cNum most hm).ed (Int.ofNat l.length) (encL c.enc l ++ r) ⟨Int.natCast_nonneg _, Int.ofNat_le.2 h.1⟩
    rw [show (cNum most hm).enc (Int.ofNat l.length) = encU 9 l.length from rfl, ← List.append_assoc] at h1
    simp only [h1]
    exact dRep_enc c l r h.2
  de l as r hb h := by
    cases h1 : (cNum most hm).dec l with
    | none => simp only [h1] at h; cases h
    | some y =>
      obtain ⟨n, r1⟩ := y
      simp only [h1] at h
      obtain ⟨k1, rfl⟩ := (cNum most hm).de l n r1 hb h1
      obtain ⟨k2, k3, rfl⟩ := dRep_dec c n.toNat r1 as r hb.right h
      have k4 : 0 ≤ n := k1.1
      have k5 : n ≤ Int.ofNat most := k1.2
      have e : Int.ofNat most = (most : Int) := rfl
      refine ⟨⟨by omega, k3⟩, ?_⟩
      rw [show (cNum most hm).enc n = encU 9 n.toNat from rfl, k2, List.append_assoc]

/-- The bytes of a thing are one thing's: none of its beginnings is read whole, nor what has one byte more. -/
theorem Cod.cut {α : Type} (c : Cod α) {a b : α} {k : Nat} (h : c.ok a) (hk : k < (c.enc a).length) : c.dec ((c.enc a).take k) ≠ some (b, []) := by
  intro e
  obtain ⟨h1, h2⟩ := c.de _ _ _ (fun x hx => c.byt a h x (List.mem_of_mem_take hx)) e
  rw [List.append_nil] at h2
  have h3 := c.ed b ((c.enc a).drop k) h1
  rw [← h2, List.take_append_drop] at h3
  have h4 := c.ed a [] h
  rw [List.append_nil, h3] at h4
  simp only [Option.some.injEq, Prod.mk.injEq] at h4
  have h5 := congrArg List.length h4.2
  simp at h5
  omega
theorem Cod.more {α : Type} (c : Cod α) {a b : α} {x : Nat} {r : List Nat} (h : c.ok a) : c.dec (c.enc a ++ x :: r) ≠ some (b, []) := by
  rw [c.ed a _ h]
  simp
theorem Cod.inj {α : Type} (c : Cod α) {a b : α} (h : c.ok a) (k : c.ok b) : c.enc a = c.enc b ↔ a = b := by
  refine ⟨fun e => ?_, fun e => by rw [e]⟩
  have h1 := c.ed a [] h
  have h2 := c.ed b [] k
  rw [e, h2] at h1
  simp only [Option.some.injEq, Prod.mk.injEq, and_true] at h1
  exact h1.symm
end Am

/-
  Speculative code as data: its bytes, and where it lies.
-/
namespace Am
open Go
set_option linter.unusedSimpArgs false
set_option linter.unusedVariables false

def intC (a : Int) : List V := [.int .i64 a]
def byteC (n : Nat) : List V := [.int .u8 (.ofNat n)]

abbrev SpecA := Int × Int × Int × Int × Int × Int × Int
abbrev BackA := Int × Int × List Int × List Int
abbrev NeedA := Int × Int
abbrev FastA := Int × Int × List SpecA × List (List BackA) × List NeedA

def cN : Cod Int := cNum 1048576 (by decide)
def cSpec : Cod SpecA := cSeq (cNum 255 (by decide)) (cSeq cN (cSeq cN (cSeq cN (cSeq cN (cSeq cN (cExit 1048576 (by decide)))))))
def cInts : Cod (List Int) := cList cN 1024 (by decide)
def cBack : Cod BackA := cSeq cN (cSeq cN (cSeq cInts cInts))
def cBacks : Cod (List BackA) := cList cBack 3 (by decide)
def cNeed : Cod NeedA := cSeq cN (cNum 4294967295 (by decide))
def cFast : Cod FastA := cSeq cN (cSeq cN (cSeq (cList cSpec 4000 (by decide)) (cSeq (cList cBacks 2000 (by decide)) (cList cNeed 100 (by decide)))))

def specC (s : SpecA) : List V := [.int .u8 s.1, .int .i64 s.2.1, .int .i64 s.2.2.1, .int .i64 s.2.2.2.1, .int .i64 s.2.2.2.2.1, .int .i64 s.2.2.2.2.2.1, .int .i64 s.2.2.2.2.2.2]
def needC (n : NeedA) : List V := [.int .i64 n.1, .int .u32 n.2]

/-- One by one. -/
def All2 {α β : Type} (R : α → β → Prop) (a : List α) (b : List β) : Prop := a.length = b.length ∧ ∀ (i : Nat) (x : α) (y : β), a[i]? = some x → b[i]? = some y → R x y

theorem All2.nil {α β : Type} (R : α → β → Prop) : All2 R [] [] := ⟨rfl, by simp⟩
theorem All2.push {α β : Type} {R : α → β → Prop} {a : List α} {b : List β} {x : α} {y : β} (h : All2 R a b) (k : R x y) : All2 R (a ++ [x]) (b ++ [y]) := by
  refine ⟨by simp [h.1], fun i u v hu hv => ?_⟩
  by_cases hi : i < a.length
  · rw [List.getElem?_append_left hi] at hu
    rw [List.getElem?_append_left (by have := h.1; omega)] at hv
    exact h.2 i u v hu hv
  · have hi2 : i < (a ++ [x]).length := (List.getElem?_eq_some_iff.1 hu).1
    have : i = a.length := by simp at hi2; omega
    subst this
    simp at hu
    rw [h.1] at hv
    simp at hv
    subst hu hv
    exact k
theorem All2.mono {α β : Type} {R R' : α → β → Prop} {a : List α} {b : List β} (h : All2 R a b) (k : ∀ x y, x ∈ a → y ∈ b → R x y → R' x y) : All2 R' a b :=
  ⟨h.1, fun i x y hx hy => k x y (List.mem_of_getElem? hx) (List.mem_of_getElem? hy) (h.2 i x y hx hy)⟩
theorem All2.get {α β : Type} {R : α → β → Prop} {a : List α} {b : List β} (h : All2 R a b) {i : Nat} (hi : i < a.length) (hj : i < b.length) : R a[i] b[i] :=
  h.2 i _ _ (List.getElem?_eq_getElem hi) (List.getElem?_eq_getElem hj)

/-- A slice of which nothing turns any more: its object is one of 'Z'. -/
def RSz (Z : Nat → Prop) (h : Heap) (esz : Nat) (v : V) (l : List (List V)) : Prop := RS h esz v l ∧ ∀ j ∈ slIds v, Z j

theorem RSz.ext {Z Z' : Nat → Prop} {S : List Nat} {h h' : Heap} {esz : Nat} {v : V} {l : List (List V)} (k : RSz Z h esz v l) (hE : ExtX S h h') (hs : ∀ j, Z j → j ∉ S) (hz : ∀ j, Z j → Z' j) : RSz Z' h' esz v l :=
  ⟨k.1.ext hE fun id off len ver e f hv => hs id (k.2 id (by rw [hv]; simp [slIds])), fun j hj => hz j (k.2 j hj)⟩

def BackR (Z : Nat → Prop) (h : Heap) (c : List V) (b : BackA) : Prop := ∃ vv vs, c = [.int .i64 b.1, .int .i64 b.2.1, vv, vs] ∧ RSz Z h 1 vv (b.2.2.1.map intC) ∧ RSz Z h 1 vs (b.2.2.2.map intC)
def ExitR (Z : Nat → Prop) (h : Heap) (c : List V) (l : List BackA) : Prop := ∃ v lc, c = [v] ∧ RSz Z h 4 v lc ∧ All2 (BackR Z h) lc l
def FastR (Z : Nat → Prop) (h : Heap) (c : List V) (f : FastA) : Prop := ∃ vc ve vn le, c = [.int .i64 f.1, .int .i64 f.2.1, vc, ve, vn] ∧ RSz Z h 7 vc (f.2.2.1.map specC) ∧ RSz Z h 1 ve le ∧ All2 (ExitR Z h) le f.2.2.2.1 ∧ RSz Z h 2 vn (f.2.2.2.2.map needC)

section ext
variable {Z Z' : Nat → Prop} {S : List Nat} {h h' : Heap} {c : List V}
theorem BackR.ext {b : BackA} (k : BackR Z h c b) (hE : ExtX S h h') (hs : ∀ j, Z j → j ∉ S) (hz : ∀ j, Z j → Z' j) : BackR Z' h' c b := by
  obtain ⟨vv, vs, e, k1, k2⟩ := k
  exact ⟨vv, vs, e, k1.ext hE hs hz, k2.ext hE hs hz⟩
theorem ExitR.ext {b : List BackA} (k : ExitR Z h c b) (hE : ExtX S h h') (hs : ∀ j, Z j → j ∉ S) (hz : ∀ j, Z j → Z' j) : ExitR Z' h' c b := by
  obtain ⟨v, lc, e, k1, k2⟩ := k
  exact ⟨v, lc, e, k1.ext hE hs hz, k2.mono fun x y _ _ k => k.ext hE hs hz⟩
theorem FastR.ext {b : FastA} (k : FastR Z h c b) (hE : ExtX S h h') (hs : ∀ j, Z j → j ∉ S) (hz : ∀ j, Z j → Z' j) : FastR Z' h' c b := by
  obtain ⟨vc, ve, vn, le, e, k1, k2, k3, k4⟩ := k
  exact ⟨vc, ve, vn, le, e, k1.ext hE hs hz, k2.ext hE hs hz, k3.mono fun x y _ _ k => k.ext hE hs hz, k4.ext hE hs hz⟩
theorem FastR.ext0 {b : FastA} (k : FastR Z h c b) (hE : Ext h h') : FastR Z h' c b := k.ext hE (by simp) (fun _ h => h)
theorem ExitR.ext0 {b : List BackA} (k : ExitR Z h c b) (hE : Ext h h') : ExitR Z h' c b := k.ext hE (by simp) (fun _ h => h)
theorem BackR.ext0 {b : BackA} (k : BackR Z h c b) (hE : Ext h h') : BackR Z h' c b := k.ext hE (by simp) (fun _ h => h)
theorem RSz.ext0 {esz : Nat} {v : V} {l : List (List V)} (k : RSz Z h esz v l) (hE : Ext h h') : RSz Z h' esz v l := k.ext hE (by simp) (fun _ h => h)
theorem BackR.shape {b : BackA} (k : BackR Z h c b) : c.length = 4 ∧ allOne c = true := by
  obtain ⟨vv, vs, rfl, k1, k2⟩ := k
  exact ⟨rfl, by simp only [allOne, k1.1.one, k2.1.one]; rfl⟩
theorem ExitR.shape {b : List BackA} (k : ExitR Z h c b) : c.length = 1 ∧ allOne c = true := by
  obtain ⟨v, lc, rfl, k1, k2⟩ := k
  exact ⟨rfl, by simp only [allOne, k1.1.one]⟩
theorem FastR.shape {b : FastA} (k : FastR Z h c b) : c.length = 5 ∧ allOne c = true := by
  obtain ⟨vc, ve, vn, le, rfl, k1, k2, k3, k4⟩ := k
  exact ⟨rfl, by simp only [allOne, k1.1.one, k2.1.one, k4.1.one]; rfl⟩
end ext

/-! ### Bytes of numbers -/
theorem or128 : ∀ b : Fin 256, (b.val ||| 128) = b.val % 128 + 128 := by decide +kernel

end Am

/-
  Bits of numbers: bytes of seven bits, put together and taken apart.
-/
namespace Am
open Go
set_option linter.unusedSimpArgs false
set_option linter.unusedVariables false

theorem wrap_u8 (x : Int) : IntKind.u8.wrap x = x % 256 := by
  simp only [IntKind.wrap, IntKind.signed, IntKind.bits, Bool.false_and, Bool.false_eq_true, if_false]
  rfl
theorem wrap_u32 (x : Int) : IntKind.u32.wrap x = x % 4294967296 := by
  simp only [IntKind.wrap, IntKind.signed, IntKind.bits, Bool.false_and, Bool.false_eq_true, if_false]
  rfl

theorem bits_and127 : ∀ x : Fin 256, IntKind.u8.wrap ((BitVec.ofInt 8 (Int.ofNat x.val) &&& BitVec.ofInt 8 127).toNat : Int) = Int.ofNat (x.val % 128) := by decide +kernel
theorem bits_or128 : ∀ x : Fin 256, IntKind.u8.wrap ((BitVec.ofInt 8 (Int.ofNat x.val) ||| BitVec.ofInt 8 128).toNat : Int) = Int.ofNat (x.val % 128 + 128) := by decide +kernel

theorem or_add {a y i : Nat} (ha : a < 2 ^ i) : a ||| (y * 2 ^ i) = a + y * 2 ^ i := by
  have h := Nat.shiftLeft_add_eq_or_of_lt ha y
  rw [Nat.shiftLeft_eq] at h
  rw [Nat.or_comm, ← h, Nat.add_comm]

theorem bits_or64 {a b : Nat} (ha : a < 18446744073709551616) (hb : b < 18446744073709551616) : IntKind.u64.wrap ((BitVec.ofInt 64 (Int.ofNat a) ||| BitVec.ofInt 64 (Int.ofNat b)).toNat : Int) = Int.ofNat (a ||| b) := by
  have e1 : BitVec.ofInt 64 (Int.ofNat a) = BitVec.ofNat 64 a := BitVec.ofInt_natCast 64 a
  have e2 : BitVec.ofInt 64 (Int.ofNat b) = BitVec.ofNat 64 b := BitVec.ofInt_natCast 64 b
  rw [e1, e2, wrap_u64, BitVec.toNat_or, BitVec.toNat_ofNat, BitVec.toNat_ofNat, Nat.mod_eq_of_lt (show a < 2 ^ 64 by omega), Nat.mod_eq_of_lt (show b < 2 ^ 64 by omega)]
  have h : a ||| b < 2 ^ 64 := Nat.or_lt_two_pow (by omega) (by omega)
  show ((a ||| b : Nat) : Int) % _ = ((a ||| b : Nat) : Int)
  omega

theorem bits_xor64 {a b : Nat} (ha : a < 18446744073709551616) (hb : b < 18446744073709551616) : IntKind.u64.wrap ((BitVec.ofInt 64 (Int.ofNat a) ^^^ BitVec.ofInt 64 (Int.ofNat b)).toNat : Int) = Int.ofNat (a ^^^ b) := by
  have e1 : BitVec.ofInt 64 (Int.ofNat a) = BitVec.ofNat 64 a := BitVec.ofInt_natCast 64 a
  have e2 : BitVec.ofInt 64 (Int.ofNat b) = BitVec.ofNat 64 b := BitVec.ofInt_natCast 64 b
  rw [e1, e2, wrap_u64, BitVec.toNat_xor, BitVec.toNat_ofNat, BitVec.toNat_ofNat, Nat.mod_eq_of_lt (show a < 2 ^ 64 by omega), Nat.mod_eq_of_lt (show b < 2 ^ 64 by omega)]
  have h : a ^^^ b < 2 ^ 64 := Nat.xor_lt_two_pow (by omega) (by omega)
  show ((a ^^^ b : Nat) : Int) % _ = ((a ^^^ b : Nat) : Int)
  omega

theorem bits_and1 {a : Nat} (ha : a < 18446744073709551616) : IntKind.u64.wrap ((BitVec.ofInt 64 (Int.ofNat a) &&& BitVec.ofInt 64 1).toNat : Int) = Int.ofNat (a % 2) := by
  have e1 : BitVec.ofInt 64 (Int.ofNat a) = BitVec.ofNat 64 a := BitVec.ofInt_natCast 64 a
  have e2 : BitVec.ofInt 64 1 = BitVec.ofNat 64 1 := rfl
  rw [e1, e2, wrap_u64, BitVec.toNat_and, BitVec.toNat_ofNat, BitVec.toNat_ofNat, Nat.mod_eq_of_lt (show a < 2 ^ 64 by omega), Nat.mod_eq_of_lt (show 1 < 2 ^ 64 by decide), Nat.and_one_is_mod]
  show ((a % 2 : Nat) : Int) % _ = ((a % 2 : Nat) : Int)
  omega
theorem bits_xor0 {a : Nat} (ha : a < 9223372036854775808) : IntKind.i64.wrap ((BitVec.ofInt 64 (Int.ofNat a) ^^^ BitVec.ofInt 64 0).toNat : Int) = Int.ofNat a := by
  have e1 : BitVec.ofInt 64 (Int.ofNat a) = BitVec.ofNat 64 a := BitVec.ofInt_natCast 64 a
  have e2 : BitVec.ofInt 64 0 = 0#64 := rfl
  rw [e1, e2, BitVec.xor_zero, BitVec.toNat_ofNat, Nat.mod_eq_of_lt (show a < 2 ^ 64 by omega)]
  exact wrap_i64_nat ha
theorem bits_xor1 {a : Nat} (ha : a < 9223372036854775808) : IntKind.i64.wrap ((BitVec.ofInt 64 (Int.ofNat a) ^^^ BitVec.ofInt 64 (-1)).toNat : Int) = -(Int.ofNat a) - 1 := by
  have e1 : BitVec.ofInt 64 (Int.ofNat a) = BitVec.ofNat 64 a := BitVec.ofInt_natCast 64 a
  have e2 : BitVec.ofInt 64 (-1) = BitVec.allOnes 64 := by decide +kernel
  rw [e1, e2, BitVec.xor_allOnes, BitVec.toNat_not, BitVec.toNat_ofNat, Nat.mod_eq_of_lt (show a < 2 ^ 64 by omega), wrap_i64_eq]
  have e3 : Int.ofNat a = (a : Int) := rfl
  rw [e3]
  split <;> omega

theorem rd_own {h : Heap} {id n : Nat} {cs : List V} (k : Own h id cs) (hl : cs.length = n) (hn : n = n) : rd h true n (.ptr id 0 0 n) = some (.agg cs) := by
  have := (k.at hl).agg (n := n) (by omega)
  rwa [List.take_of_length_le (by omega)] at this

section rules
variable {T : Nat → Option AFunc} {O : CallF} {vs ls : List V} {h : Heap} {Q : List V → Heap → Prop} {os : List AOp} {q : EqK} {x y : Opd} {k : IntKind}

theorem w_and127 {a : Nat} (hx : ev ls vs x = some (.int .u8 (.ofNat a))) (hy : ev ls vs y = some (.int .u8 (.ofNat 127))) (ha : a < 256) (k1 : WPo T O os (.int .u8 (.ofNat (a % 128)) :: ls) vs h Q) : WPo T O (⟨none, .bin .and q x y⟩ :: os) ls vs h Q :=
  w_op (o_bin_v hx hy (by
    simp only [binV, if_true, intBin]
    exact congrArg (fun n => some (V.int .u8 n)) (bits_and127 ⟨a, ha⟩))) k1
theorem w_orD {a b i : Nat} (hx : ev ls vs x = some (.int .u64 (.ofNat a))) (hy : ev ls vs y = some (.int .u64 (.ofNat (b * 2 ^ i)))) (ha : a < 2 ^ i) (hi : a + b * 2 ^ i < 18446744073709551616) (k1 : WPo T O os (.int .u64 (.ofNat (a + b * 2 ^ i)) :: ls) vs h Q) : WPo T O (⟨none, .bin .or q x y⟩ :: os) ls vs h Q :=
  w_op (o_bin_v hx hy (by
    simp only [binV, if_true, intBin]
    have e := bits_or64 (a := a) (b := b * 2 ^ i) (by omega) (by omega)
    rw [or_add ha] at e
    exact congrArg (fun n => some (V.int .u64 n)) e)) k1
theorem w_xorN {a b : Nat} (hx : ev ls vs x = some (.int .u64 (.ofNat a))) (hy : ev ls vs y = some (.int .u64 (.ofNat b))) (ha : a < 18446744073709551616) (hb : b < 18446744073709551616) (k1 : WPo T O os (.int .u64 (.ofNat (a ^^^ b)) :: ls) vs h Q) : WPo T O (⟨none, .bin .xor q x y⟩ :: os) ls vs h Q :=
  w_op (o_bin_v hx hy (by
    simp only [binV, if_true, intBin]
    exact congrArg (fun n => some (V.int .u64 n)) (bits_xor64 ha hb))) k1
theorem w_shlN {a b : Nat} {k2 : IntKind} (hx : ev ls vs x = some (.int .u64 (.ofNat a))) (hy : ev ls vs y = some (.int k2 (.ofNat b))) (hb : b ≤ 64) (ha : a * 2 ^ b < 18446744073709551616) (k1 : WPo T O os (.int .u64 (.ofNat (a * 2 ^ b)) :: ls) vs h Q) : WPo T O (⟨none, .bin .shl q x y⟩ :: os) ls vs h Q :=
  w_op (o_bin_v hx hy (by
    simp only [binV]
    have h0 : ¬ (Int.ofNat b < 0) := by have : Int.ofNat b = (b : Int) := rfl; omega
    have h1 : min (Int.ofNat b).toNat IntKind.u64.bits = b := by
      have : (Int.ofNat b).toNat = b := rfl
      rw [this]; exact Nat.min_eq_left hb
    rw [if_neg h0, h1, wrap_u64]
    have h2 : Int.ofNat a * 2 ^ b = ((a * 2 ^ b : Nat) : Int) := by
      show (a : Int) * 2 ^ b = _
      rw [Int.natCast_mul, Int.natCast_pow]; rfl
    rw [h2]
    have h3 : ((a * 2 ^ b : Nat) : Int) % 18446744073709551616 = Int.ofNat (a * 2 ^ b) := by
      show _ = ((a * 2 ^ b : Nat) : Int)
      omega
    rw [h3])) k1
theorem w_mulN {a b : Nat} (hx : ev ls vs x = some (.int .i64 (.ofNat a))) (hy : ev ls vs y = some (.int .i64 (.ofNat b))) (hb : a * b < 9223372036854775808) (k1 : WPo T O os (.int .i64 (.ofNat (a * b)) :: ls) vs h Q) : WPo T O (⟨none, .bin .mul q x y⟩ :: os) ls vs h Q :=
  w_op (o_bin_v hx hy (by
    have e : Int.ofNat a * Int.ofNat b = Int.ofNat (a * b) := rfl
    simp only [binV, if_true, intBin, e, wrap_i64_nat hb])) k1
theorem w_and1 {a : Nat} (hx : ev ls vs x = some (.int .u64 (.ofNat a))) (hy : ev ls vs y = some (.int .u64 (.ofNat 1))) (ha : a < 18446744073709551616) (k1 : WPo T O os (.int .u64 (.ofNat (a % 2)) :: ls) vs h Q) : WPo T O (⟨none, .bin .and q x y⟩ :: os) ls vs h Q :=
  w_op (o_bin_v hx hy (by
    simp only [binV, if_true, intBin]
    exact congrArg (fun n => some (V.int .u64 n)) (bits_and1 ha))) k1
theorem w_shr1 {a : Nat} (hx : ev ls vs x = some (.int .u64 (.ofNat a))) (hy : ev ls vs y = some (.int .u64 (.ofNat 1))) (k1 : WPo T O os (.int .u64 (.ofNat (a / 2)) :: ls) vs h Q) : WPo T O (⟨none, .bin .shr q x y⟩ :: os) ls vs h Q :=
  w_op (o_bin_v hx hy (by
    simp only [binV]
    rw [if_neg (by decide)]
    have e : (Int.ofNat a).fdiv (2 ^ (min (Int.ofNat 1).toNat IntKind.u64.bits)) = Int.ofNat (a / 2) := by
      rw [Int.fdiv_eq_ediv_of_nonneg _ (by decide)]
      rfl
    rw [e])) k1
theorem w_xorI0 {a : Nat} (hx : ev ls vs x = some (.int .i64 (.ofNat a))) (hy : ev ls vs y = some (.int .i64 0)) (ha : a < 9223372036854775808) (k1 : WPo T O os (.int .i64 (.ofNat a) :: ls) vs h Q) : WPo T O (⟨none, .bin .xor q x y⟩ :: os) ls vs h Q :=
  w_op (o_bin_v hx hy (by
    simp only [binV, if_true, intBin]
    exact congrArg (fun n => some (V.int .i64 n)) (bits_xor0 ha))) k1
theorem w_xorI1 {a : Nat} (hx : ev ls vs x = some (.int .i64 (.ofNat a))) (hy : ev ls vs y = some (.int .i64 (-1))) (ha : a < 9223372036854775808) (k1 : WPo T O os (.int .i64 (-(Int.ofNat a) - 1) :: ls) vs h Q) : WPo T O (⟨none, .bin .xor q x y⟩ :: os) ls vs h Q :=
  w_op (o_bin_v hx hy (by
    simp only [binV, if_true, intBin]
    exact congrArg (fun n => some (V.int .i64 n)) (bits_xor1 ha))) k1

/-- An operation that reckons with no numbers. -/
def quietK : AK → Bool
  | .build _ _ => false
  | .mx _ _ => false
  | .mn _ _ => false
  | .bin _ _ _ _ => false
  | .toInt _ _ => false
  | _ => true
theorem w_opq {k : AK} {v : V} (hp : quietK k = true) (e : opv k ls vs h = some (v, h)) (k1 : WPo T O os (v :: ls) vs h Q) : WPo T O (⟨none, k⟩ :: os) ls vs h Q := w_op e k1
theorem w_toI {j : IntKind} {a b : Int} (hx : ev ls vs x = some (.int j a)) (hw : k.wrap a = b) (k1 : WPo T O os (.int k b :: ls) vs h Q) : WPo T O (⟨none, .toInt k x⟩ :: os) ls vs h Q := by
  subst hw
  refine w_op ?_ k1
  show o_toInt k x ls vs h = _
  simp only [o_toInt, hx]
end rules
end Am

/-
  A reader at work: how far it is, or that it failed.
-/
namespace Am
open Go
set_option linter.unusedSimpArgs false
set_option linter.unusedVariables false

/-- What is read behind what was read. -/
def aft {α : Type} (p : List Nat → Option (α × List Nat)) : Option (List Nat) → Option (α × List Nat)
  | none => none
  | some l => p l
def rst {α : Type} : Option (α × List Nat) → Option (List Nat)
  | none => none
  | some (_, r) => some r

theorem aft_some {α : Type} {p : List Nat → Option (α × List Nat)} {σ : Option (List Nat)} {a : α} {r : List Nat} (h : aft p σ = some (a, r)) : ∃ l, σ = some l ∧ p l = some (a, r) := by
  cases σ with
  | none => cases h
  | some l => exact ⟨l, rfl, h⟩

theorem rst_seq {α β : Type} (c : Cod α) (d : Cod β) (σ : Option (List Nat)) : rst (aft (cSeq c d).dec σ) = rst (aft d.dec (rst (aft c.dec σ))) := by
  cases σ with
  | none => rfl
  | some l =>
    show rst (dSeq c.dec d.dec l) = rst (aft d.dec (rst (c.dec l)))
    unfold dSeq
    cases h : c.dec l with
    | none => rfl
    | some y =>
      obtain ⟨a, r⟩ := y
      show _ = rst (d.dec r)
      simp only
      cases d.dec r with
      | none => rfl
      | some z => rfl

theorem aft_seq {α β : Type} {c : Cod α} {d : Cod β} {σ : Option (List Nat)} {x : α × β} {l : List Nat} (h : aft (cSeq c d).dec σ = some (x, l)) : (∃ l1, aft c.dec σ = some (x.1, l1)) ∧ aft d.dec (rst (aft c.dec σ)) = some (x.2, l) := by
  cases σ with
  | none => cases h
  | some l0 =>
    have h : dSeq c.dec d.dec l0 = some (x, l) := h
    show (∃ l1, c.dec l0 = some (x.1, l1)) ∧ aft d.dec (rst (c.dec l0)) = some (x.2, l)
    unfold dSeq at h
    cases h1 : c.dec l0 with
    | none => rw [h1] at h; cases h
    | some y =>
      obtain ⟨a, r⟩ := y
      rw [h1] at h
      simp only at h
      cases h2 : d.dec r with
      | none => rw [h2] at h; cases h
      | some z =>
        obtain ⟨b, r'⟩ := z
        rw [h2] at h
        simp only [Option.some.injEq, Prod.mk.injEq] at h
        obtain ⟨rfl, rfl⟩ := h
        exact ⟨⟨r, rfl⟩, h2⟩

/-- What lies under a reader: the bytes. -/
structure RdB (hb : Heap) (b : V) (bs : List Nat) : Prop where
  rs : RS hb 1 b (bs.map byteC)
  by_ : Bytes bs
  len : bs.length ≤ 4294967296

/-- The reader 'r' over 'bs': what is left to be read; none: it failed. -/
def RdSt (hb h : Heap) (r : Nat) (b : V) (bs : List Nat) : Option (List Nat) → Prop
  | some rest => hb.n ≤ r ∧ Ext hb h ∧ ∃ a, a ≤ bs.length ∧ rest = bs.drop a ∧ Own h r [b, .int .i64 (.ofNat a), .bool false]
  | none => hb.n ≤ r ∧ Ext hb h ∧ ∃ a : Nat, Own h r [b, .int .i64 (.ofNat a), .bool true]

theorem RdSt.base {hb h : Heap} {r : Nat} {b : V} {bs : List Nat} {σ : Option (List Nat)} (k : RdSt hb h r b bs σ) : hb.n ≤ r ∧ Ext hb h ∧ r < h.n := by
  cases σ with
  | none => obtain ⟨h1, h2, a, h3⟩ := k; exact ⟨h1, h2, h3.1⟩
  | some l => obtain ⟨h1, h2, a, _, _, h3⟩ := k; exact ⟨h1, h2, h3.1⟩

theorem RdSt.bytes {hb h : Heap} {r : Nat} {b : V} {bs : List Nat} {l : List Nat} (hB : RdB hb b bs) (k : RdSt hb h r b bs (some l)) : Bytes l := by
  obtain ⟨h1, h2, a, h3, rfl, _⟩ := k
  exact fun x hx => hB.by_ x (List.mem_of_mem_drop hx)

/-- Other things turn. -/
theorem RdSt.ext {S : List Nat} {hb h h' : Heap} {r : Nat} {b : V} {bs : List Nat} {σ : Option (List Nat)} (k : RdSt hb h r b bs σ) (hE : ExtX S h h') (hr : r ∉ S) (hS : ∀ j ∈ S, hb.n ≤ j) : RdSt hb h' r b bs σ := by
  have hX : ∀ {h}, Ext hb h → ExtX S h h' → Ext hb h' := fun e k => e.step k fun j hj => .inr (hS j hj)
  cases σ with
  | none =>
    obtain ⟨h1, h2, a, h3⟩ := k
    exact ⟨h1, hX h2 hE, a, h3.ext hE hr⟩
  | some l =>
    obtain ⟨h1, h2, a, ha, hl, h3⟩ := k
    exact ⟨h1, hX h2 hE, a, ha, hl, h3.ext hE hr⟩
theorem RdSt.ext0 {hb h h' : Heap} {r : Nat} {b : V} {bs : List Nat} {σ : Option (List Nat)} (k : RdSt hb h r b bs σ) (hE : Ext h h') : RdSt hb h' r b bs σ := k.ext hE (by simp) (by simp)

theorem dU_drop {bs : List Nat} {a n : Nat} {r : List Nat} (hB : Bytes bs) (ha : a ≤ bs.length) (h : dU 9 true (bs.drop a) = some (n, r)) : r = bs.drop (bs.length - r.length) ∧ r.length ≤ bs.length := by
  obtain ⟨h1, _, _⟩ := dU_dec 9 true _ n r (fun x hx => hB x (List.mem_of_mem_drop hx)) h
  have h2 := congrArg List.length h1
  simp at h2
  have h3 : bs = (bs.take a ++ encU 9 n) ++ r := by
    rw [List.append_assoc, ← h1, List.take_append_drop]
  refine ⟨?_, by omega⟩
  have h5 : ∀ p : List Nat, bs = p ++ r → r = bs.drop (bs.length - r.length) := by
    rintro p rfl
    rw [List.length_append, Nat.add_sub_cancel, List.drop_left]
  exact h5 _ h3

end Am

/-
  A writer at work: what was written, and whether a number may not be. What any code is written as.
-/
namespace Am
open Go
set_option linter.unusedSimpArgs false
set_option linter.unusedVariables false

/-- A number as it is written, whichever it is. -/
def encI (n : Int) : List Nat := encU 9 (IntKind.u64.wrap n).toNat
def badI (n : Int) : Bool := decide (n < 0) || decide (1048576 < n)

theorem encI_nat (n : Nat) (h : n < 18446744073709551616) : encI (Int.ofNat n) = encU 9 n := by
  unfold encI
  have : IntKind.u64.wrap (Int.ofNat n) = (n : Int) := by
    rw [wrap_u64]; show ((n : Nat) : Int) % _ = _; omega
  rw [this]; rfl

theorem wrap_u64_nat (n : Int) : ∃ k : Nat, IntKind.u64.wrap n = Int.ofNat k ∧ k < 18446744073709551616 ∧ encI n = encU 9 k := by
  have := wrap_u64_range n
  refine ⟨(IntKind.u64.wrap n).toNat, ?_, by omega, rfl⟩
  show _ = (((IntKind.u64.wrap n).toNat : Nat) : Int)
  omega

/-- The writer 'w': over 'bv'. -/
def WrSt (hb h : Heap) (w : Nat) (bv : V) (l : List Nat) (bad : Bool) : Prop :=
  hb.n ≤ w ∧ Ext hb h ∧ Own h w [bv, .bool bad] ∧ Ow h 1 bv (l.map byteC) ∧ ∀ j ∈ slIds bv, hb.n ≤ j ∧ j ≠ w

theorem WrSt.ext {S : List Nat} {hb h h' : Heap} {w : Nat} {bv : V} {l : List Nat} {bad : Bool} (k : WrSt hb h w bv l bad) (hE : ExtX S h h') (hw : w ∉ S) (hv : ∀ j ∈ slIds bv, j ∉ S) (hS : ∀ j ∈ S, hb.n ≤ j) : WrSt hb h' w bv l bad := by
  obtain ⟨h1, h2, h3, h4, h5⟩ := k
  exact ⟨h1, h2.step hE fun j hj => .inr (hS j hj), h3.ext hE hw, h4.ext hE hv, h5⟩
theorem WrSt.ext0 {hb h h' : Heap} {w : Nat} {bv : V} {l : List Nat} {bad : Bool} (k : WrSt hb h w bv l bad) (hE : Ext h h') : WrSt hb h' w bv l bad := k.ext hE (by simp) (by simp) (by simp)

/-- From a writer to one that came of it. -/
def WrFr (w : Nat) (h : Heap) (bv : V) (h' : Heap) (bv' : V) : Prop := ExtX (w :: slIds bv) h h' ∧ ∀ j ∈ slIds bv', j ∈ slIds bv ∨ h.n ≤ j

theorem WrFr.refl (w : Nat) (h : Heap) (bv : V) : WrFr w h bv h bv := ⟨ExtX.refl _ _, fun _ h => .inl h⟩
theorem WrFr.trans {w : Nat} {a b c : Heap} {u v x : V} (h : WrFr w a u b v) (k : WrFr w b v c x) : WrFr w a u c x := by
  refine ⟨h.1.step k.1 fun j hj => ?_, fun j hj => ?_⟩
  · rcases List.mem_cons.1 hj with rfl | hj
    · exact .inl (by simp)
    · rcases h.2 j hj with e | e
      · exact .inl (by simp [e])
      · exact .inr e
  · rcases k.2 j hj with e | e
    · exact h.2 j e
    · have := h.1.1; exact .inr (by omega)
theorem WrFr.ext0 {w : Nat} {a b c : Heap} {u v : V} (h : WrFr w a u b v) (k : Ext b c) : WrFr w a u c v :=
  ⟨h.1.step (k.mono (S' := []) (by simp)) (by simp), h.2⟩
theorem WrFr.of_ext {w : Nat} {a b : Heap} (v : V) (k : Ext a b) : WrFr w a v b v := (WrFr.refl w a v).ext0 k

/-- What stays under a writer's work. -/
theorem WrFr.rs {w : Nat} {h h' : Heap} {bv bv' : V} (k : WrFr w h bv h' bv') {esz : Nat} {v : V} {l : List (List V)} (hr : RS h esz v l) (hv : ∀ j ∈ slIds v, j ≠ w ∧ j ∉ slIds bv) : RS h' esz v l :=
  hr.ext k.1 fun id off len ver e f hh => by
    have := hv id (by rw [hh]; simp [slIds])
    simp [this.1, this.2]
/-- .. and is apart from it still. -/
theorem WrFr.apart {w : Nat} {h h' : Heap} {bv bv' : V} (k : WrFr w h bv h' bv') {v : V} (hlt : ∀ j ∈ slIds v, j < h.n) (hv : ∀ j ∈ slIds v, j ≠ w ∧ j ∉ slIds bv) : ∀ j ∈ slIds v, j ≠ w ∧ j ∉ slIds bv' := fun j hj => by
  refine ⟨(hv j hj).1, fun e => ?_⟩
  rcases k.2 j e with e | e
  · exact (hv j hj).2 e
  · have := hlt j hj; omega

theorem encL_ge {α : Type} {f : α → List Nat} (h : ∀ a, 1 ≤ (f a).length) : ∀ l : List α, l.length ≤ (encL f l).length
  | [] => Nat.le_refl _
  | a :: l => by
    have h1 := h a
    have h2 := encL_ge h l
    simp only [encL, List.length_cons, List.length_append]
    omega
theorem encL_split {α : Type} (f : α → List Nat) (l : List α) {j : Nat} (hj : j < l.length) : (encL f l).length = (encL f (l.take j)).length + (f l[j]).length + (encL f (l.drop (j + 1))).length := by
  have h1 : l = l.take j ++ l[j] :: l.drop (j + 1) := by rw [← List.drop_eq_getElem_cons hj, List.take_append_drop]
  have h2 := congrArg (fun l => (encL f l).length) h1
  simp only [encL_append, encL, List.length_append] at h2
  omega
theorem encL_take {α : Type} (f : α → List Nat) (l : List α) {j : Nat} (hj : j < l.length) : encL f (l.take (j + 1)) = encL f (l.take j) ++ f l[j] := by
  rw [← List.take_append_getElem hj, encL_append]
  simp [encL]
theorem any_take {α : Type} (f : α → Bool) (l : List α) {j : Nat} (hj : j < l.length) : (l.take (j + 1)).any f = ((l.take j).any f || f l[j]) := by
  rw [← List.take_append_getElem hj, List.any_append, List.any_cons, List.any_nil, Bool.or_false]

/-- What a signed number is written as. -/
def zigN (e : Int) : Nat := (IntKind.u64.wrap ((BitVec.ofInt 64 (IntKind.u64.wrap (IntKind.u64.wrap e * 2 ^ 1)) ^^^ BitVec.ofInt 64 (IntKind.u64.wrap (e.fdiv (2 ^ 63)))).toNat : Int)).toNat

def wSpec (s : SpecA) : List Nat := encL encI [s.1, s.2.1, s.2.2.1, s.2.2.2.1, s.2.2.2.2.1, s.2.2.2.2.2.1] ++ encU 9 (zigN s.2.2.2.2.2.2)
def bSpec (s : SpecA) : Bool := [s.1, s.2.1, s.2.2.1, s.2.2.2.1, s.2.2.2.2.1, s.2.2.2.2.2.1].any badI || (decide (s.2.2.2.2.2.2 < -1) || decide (1048576 < s.2.2.2.2.2.2))
def wBack (b : BackA) : List Nat := encL encI [b.1, b.2.1] ++ encU 9 b.2.2.1.length ++ encL encI b.2.2.1 ++ encU 9 b.2.2.2.length ++ encL encI b.2.2.2
def bBack (b : BackA) : Bool := [b.1, b.2.1].any badI || decide (1024 < b.2.2.1.length) || b.2.2.1.any badI || decide (1024 < b.2.2.2.length) || b.2.2.2.any badI
def wExit (l : List BackA) : List Nat := encU 9 l.length ++ encL wBack l
def bExit (l : List BackA) : Bool := decide (3 < l.length) || l.any bBack
def wNeed (n : NeedA) : List Nat := encL encI [n.1] ++ encU 9 n.2.toNat
def bNeed (n : NeedA) : Bool := [n.1].any badI
def wFast (f : FastA) : List Nat := encL encI [f.1, f.2.1] ++ encU 9 f.2.2.1.length ++ encL wSpec f.2.2.1 ++ encU 9 f.2.2.2.1.length ++ encL wExit f.2.2.2.1 ++ encU 9 f.2.2.2.2.length ++ encL wNeed f.2.2.2.2
def bFast (f : FastA) : Bool := [f.1, f.2.1].any badI || decide (4000 < f.2.2.1.length) || f.2.2.1.any bSpec || decide (2000 < f.2.2.2.1.length) || f.2.2.2.1.any bExit || decide (100 < f.2.2.2.2.length) || f.2.2.2.2.any bNeed

theorem encU_ge (k n : Nat) : 1 ≤ (encU k n).length := (encU_len k n).1
theorem encI_ge (n : Int) : 1 ≤ (encI n).length := (encU_len 9 _).1
theorem wSpec_ge (s : SpecA) : 1 ≤ (wSpec s).length := by unfold wSpec; have := encU_ge 9 (zigN s.2.2.2.2.2.2); rw [List.length_append]; omega
theorem wBack_ge (b : BackA) : 1 ≤ (wBack b).length := by unfold wBack; have := encU_ge 9 b.2.2.1.length; simp only [List.length_append]; omega
theorem wExit_ge (l : List BackA) : 1 ≤ (wExit l).length := by unfold wExit; have := encU_ge 9 l.length; simp only [List.length_append]; omega
theorem wNeed_ge (n : NeedA) : 1 ≤ (wNeed n).length := by unfold wNeed; have := encU_ge 9 n.2.toNat; simp only [List.length_append]; omega

/-- Its small numbers are of their kinds. -/
def TyF (f : FastA) : Prop := (∀ s ∈ f.2.2.1, 0 ≤ s.1 ∧ s.1 ≤ 255) ∧ ∀ n ∈ f.2.2.2.2, 0 ≤ n.2 ∧ n.2 ≤ 4294967295

end Am

/-
  Equal parts of code, as comparisons tell.
-/
namespace Am
open Go
set_option linter.unusedSimpArgs false
set_option linter.unusedVariables false
theorem eqS_int (k : IntKind) (ks : List KK) (a b : Int) (x y : List V) : eqScalars (.int k :: ks) (.int k a :: x) (.int k b :: y) = (eqScalars ks x y).map (decide (a = b) && ·) := by
  have hk : (k == k) = true := by cases k <;> rfl
  simp only [eqScalars, KK.has, hk, Bool.and_self, eqScalar, if_true]
  by_cases h : a = b
  · subst h
    simp only [BEq.rfl, decide_true, Bool.true_and]
    cases eqScalars ks x y <;> rfl
  · have : (a == b) = false := by simpa using h
    rw [this]
    simp only [h, decide_false, Bool.false_and]
    cases eqScalars ks x y <;> rfl
theorem eqS_nil : eqScalars [] [] [] = some true := rfl
theorem neq_spec (s t : SpecA) : binV .neq (.agg [.int .u8, .int .i64, .int .i64, .int .i64, .int .i64, .int .i64, .int .i64]) (.agg (specC s)) (.agg (specC t)) = some (.bool (decide (s ≠ t))) := by
  obtain ⟨a0, a1, a2, a3, a4, a5, a6⟩ := s
  obtain ⟨b0, b1, b2, b3, b4, b5, b6⟩ := t
  simp only [binV, eqV, specC, eqS_int, eqS_nil, Option.map_some]
  simp only [Prod.mk.injEq, ne_eq, decide_not, Bool.decide_and, Bool.and_true]
theorem neq_need (s t : NeedA) : binV .neq (.agg [.int .i64, .int .u32]) (.agg (needC s)) (.agg (needC t)) = some (.bool (decide (s ≠ t))) := by
  obtain ⟨a0, a1⟩ := s
  obtain ⟨b0, b1⟩ := t
  simp only [binV, eqV, needC, eqS_int, eqS_nil, Option.map_some]
  simp only [Prod.mk.injEq, ne_eq, decide_not, Bool.decide_and, Bool.and_true]

section rules
variable {T : Nat → Option AFunc} {O : CallF} {vs ls : List V} {h : Heap} {Q : List V → Heap → Prop} {os : List AOp} {q : EqK} {x y : Opd}
/-- Two things unlike, as a comparison tells. -/
theorem w_neqD {α : Type} {a b : V} {s t : α} [Decidable (s = t)] (hx : ev ls vs x = some a) (hy : ev ls vs y = some b) (e : binV .neq q a b = some (.bool (decide (s ≠ t)))) (k1 : s ≠ t → WPo T O os (.bool true :: ls) vs h Q) (k2 : s = t → WPo T O os (.bool false :: ls) vs h Q) : WPo T O (⟨none, .bin .neq q x y⟩ :: os) ls vs h Q :=
  w_bool (o_bin_v hx hy e) (fun h => k1 (of_decide_eq_true h)) (fun h => k2 (Decidable.not_not.1 (of_decide_eq_false h)))
end rules

theorem take_eq {α : Type} {a b : List α} {j : Nat} (hj : j < a.length) (hj2 : j < b.length) (h : a.take j = b.take j) (k : a[j] = b[j]) : a.take (j + 1) = b.take (j + 1) := by
  rw [← List.take_append_getElem hj, ← List.take_append_getElem hj2, h, k]
theorem map_len {α : Type} {f : α → List V} {l : List α} : (l.map f).length = l.length := List.length_map ..
end Am

/-
  Bytes of slices as texts: equal or not.
-/
namespace Am
open Go
set_option linter.unusedSimpArgs false
set_option linter.unusedVariables false

theorem cellBytes_of : ∀ l : List Nat, cellBytes (l.map byteC).flatten = some (l.map UInt8.ofNat)
  | [] => rfl
  | a :: l => by
    simp only [List.map_cons, List.flatten_cons, byteC, List.cons_append, List.nil_append, cellBytes, cellBytes_of l]
    rfl

theorem u8_inj : ∀ {a b : List Nat}, Bytes a → Bytes b → (a.map UInt8.ofNat = b.map UInt8.ofNat ↔ a = b)
  | [], [], _, _ => by simp
  | [], _ :: _, _, _ => by simp
  | _ :: _, [], _, _ => by simp
  | x :: a, y :: b, ha, hb => by
    simp only [List.map_cons, List.cons.injEq]
    rw [u8_inj (fun z hz => ha z (by simp [hz])) fun z hz => hb z (by simp [hz])]
    have hx := ha x (by simp)
    have hy := hb y (by simp)
    refine and_congr_left fun _ => ⟨fun h => ?_, fun h => by rw [h]⟩
    have h2 := congrArg UInt8.toNat h
    rw [UInt8.toNat_ofNat_of_lt' (by simpa using hx), UInt8.toNat_ofNat_of_lt' (by simpa using hy)] at h2
    exact h2

theorem w_toStr {T : Nat → Option AFunc} {O : CallF} {vs ls : List V} {h : Heap} {Q : List V → Heap → Prop} {os : List AOp} {x : Opd} {v : V} {l : List Nat} (hx : ev ls vs x = some v) (hr : RS h 1 v (l.map byteC)) (k1 : WPo T O os (.str (l.map UInt8.ofNat) :: ls) vs h Q) : WPo T O (⟨none, .toStr x⟩ :: os) ls vs h Q := by
  refine w_op ?_ k1
  show o_toStr x ls vs h = _
  simp only [o_toStr, hx, hr.2.1, hr.1, cellBytes_of]

theorem w_eqS {T : Nat → Option AFunc} {O : CallF} {vs ls : List V} {h : Heap} {Q : List V → Heap → Prop} {os : List AOp} {q : EqK} {x y : Opd} {a b : List UInt8} (hx : ev ls vs x = some (.str a)) (hy : ev ls vs y = some (.str b)) (k1 : WPo T O os (.bool (eqBytes a b) :: ls) vs h Q) : WPo T O (⟨none, .bin .eql q x y⟩ :: os) ls vs h Q :=
  w_op (o_bin_v hx hy rfl) k1
end Am

/-
  What the writer writes is what codes are written as; when it may not be, the code is none.
-/
namespace Am
open Go
set_option linter.unusedSimpArgs false
set_option linter.unusedVariables false

theorem cN_ok (n : Int) : cN.ok n ↔ 0 ≤ n ∧ n ≤ 1048576 := Iff.rfl
theorem badI_iff (n : Int) : badI n = false ↔ cN.ok n := by
  rw [cN_ok]; unfold badI
  simp only [Bool.or_eq_false_iff, decide_eq_false_iff_not]
  omega
theorem encI_ok {n : Int} (h : cN.ok n) : encI n = cN.enc n := by
  rw [cN_ok] at h
  have e : Int.ofNat n.toNat = n := by show ((n.toNat : Nat) : Int) = n; omega
  have := encI_nat n.toNat (by omega)
  rw [e] at this
  exact this

theorem any_iff {α : Type} {f : α → Bool} {P : α → Prop} {l : List α} (h : ∀ a ∈ l, (f a = false ↔ P a)) : l.any f = false ↔ ∀ a ∈ l, P a := by
  rw [List.any_eq_false]
  constructor
  · intro k a ha
    exact (h a ha).1 (by simpa using k a ha)
  · intro k a ha
    have := (h a ha).2 (k a ha)
    simp [this]
theorem encL_congr {α : Type} {f g : α → List Nat} : ∀ {l : List α}, (∀ a ∈ l, f a = g a) → encL f l = encL g l
  | [], _ => rfl
  | a :: l, h => by simp only [encL]; rw [h a (by simp), encL_congr fun x hx => h x (by simp [hx])]

theorem zig_zigN {e : Int} (h : -1 ≤ e) (h2 : e ≤ 1048576) : zigN e = zig e := by
  by_cases h0 : e < 0
  · have : e = -1 := by omega
    subst this
    decide +kernel
  · obtain ⟨n, rfl⟩ := Int.eq_ofNat_of_zero_le (show 0 ≤ e by omega)
    unfold zigN zig
    rw [if_neg h0]
    have e1 : IntKind.u64.wrap (IntKind.u64.wrap (n : Int) * 2 ^ 1) = Int.ofNat (2 * n) := by
      rw [wrap_u64, wrap_u64]
      show _ = ((2 * n : Nat) : Int)
      omega
    have e2 : IntKind.u64.wrap ((n : Int).fdiv (2 ^ 63)) = Int.ofNat 0 := by
      rw [Int.fdiv_eq_ediv_of_nonneg _ (by decide), wrap_u64]
      show _ = ((0 : Nat) : Int)
      omega
    rw [e1, e2, bits_xor64 (by omega) (by decide), Nat.xor_zero]
    show 2 * n = _
    omega

theorem bSpec_iff (s : SpecA) (h : 0 ≤ s.1 ∧ s.1 ≤ 255) : bSpec s = false ↔ cSpec.ok s := by
  obtain ⟨a, b, c, d, e, f, g⟩ := s
  unfold bSpec
  simp only [List.any_cons, List.any_nil, Bool.or_eq_false_iff, badI_iff, Bool.or_false, decide_eq_false_iff_not]
  have z : (cExit 1048576 (by decide)).ok g ↔ -1 ≤ g ∧ g ≤ 1048576 := Iff.rfl
  show _ ↔ (cNum 255 (by decide)).ok a ∧ cN.ok b ∧ cN.ok c ∧ cN.ok d ∧ cN.ok e ∧ cN.ok f ∧ (cExit 1048576 (by decide)).ok g
  have w : (cNum 255 (by decide)).ok a ↔ 0 ≤ a ∧ a ≤ 255 := Iff.rfl
  rw [z, w]
  simp only at h
  have w2 : cN.ok a := ⟨h.1, by have : Int.ofNat 1048576 = 1048576 := rfl; omega⟩
  simp only [h, w2, true_and, and_self]
  constructor
  · rintro ⟨⟨h1, h2, h3, h4, h5⟩, h6, h7⟩; exact ⟨h1, h2, h3, h4, h5, by omega, by omega⟩
  · rintro ⟨h1, h2, h3, h4, h5, h6, h7⟩; exact ⟨⟨h1, h2, h3, h4, h5⟩, by omega, by omega⟩
theorem wSpec_eq {s : SpecA} (h : cSpec.ok s) : wSpec s = cSpec.enc s := by
  obtain ⟨a, b, c, d, e, f, g⟩ := s
  obtain ⟨h1, h2, h3, h4, h5, h6, h7⟩ := h
  have w2 : cN.ok a := ⟨h1.1, Int.le_trans h1.2 (by decide)⟩
  unfold wSpec
  simp only [encL, encI_ok w2, encI_ok h2, encI_ok h3, encI_ok h4, encI_ok h5, encI_ok h6, List.append_nil, zig_zigN h7.1 h7.2]
  simp only [List.append_assoc]
  rfl

theorem bInts_iff (l : List Int) : l.any badI = false ↔ ∀ a ∈ l, cN.ok a := any_iff fun a _ => badI_iff a
theorem wInts_eq {l : List Int} (h : ∀ a ∈ l, cN.ok a) : encL encI l = encL cN.enc l := encL_congr fun a ha => encI_ok (h a ha)

theorem bBack_iff (b : BackA) : bBack b = false ↔ cBack.ok b := by
  obtain ⟨a, c, v, s⟩ := b
  unfold bBack
  simp only [Bool.or_eq_false_iff, bInts_iff, decide_eq_false_iff_not, Nat.not_lt, List.mem_cons, List.not_mem_nil, or_false, forall_eq_or_imp, forall_eq]
  show _ ↔ cN.ok a ∧ cN.ok c ∧ (v.length ≤ 1024 ∧ ∀ a ∈ v, cN.ok a) ∧ (s.length ≤ 1024 ∧ ∀ a ∈ s, cN.ok a)
  constructor
  · rintro ⟨⟨⟨⟨⟨h1, h2⟩, h3⟩, h4⟩, h5⟩, h6⟩; exact ⟨h1, h2, ⟨h3, h4⟩, h5, h6⟩
  · rintro ⟨h1, h2, ⟨h3, h4⟩, h5, h6⟩; exact ⟨⟨⟨⟨⟨h1, h2⟩, h3⟩, h4⟩, h5⟩, h6⟩
theorem wBack_eq {b : BackA} (h : cBack.ok b) : wBack b = cBack.enc b := by
  obtain ⟨a, c, v, s⟩ := b
  obtain ⟨h1, h2, ⟨h3, h4⟩, h5, h6⟩ := h
  unfold wBack
  simp only [encL, encI_ok h1, encI_ok h2, wInts_eq h4, wInts_eq h6, List.append_nil, List.append_assoc]
  show _ = cN.enc a ++ (cN.enc c ++ ((encU 9 v.length ++ encL cN.enc v) ++ (encU 9 s.length ++ encL cN.enc s)))
  simp only [List.append_assoc]

theorem bExit_iff (l : List BackA) : bExit l = false ↔ cBacks.ok l := by
  unfold bExit
  rw [Bool.or_eq_false_iff, any_iff (P := cBack.ok) fun a _ => bBack_iff a, decide_eq_false_iff_not, Nat.not_lt]
  exact Iff.rfl
theorem wExit_eq {l : List BackA} (h : cBacks.ok l) : wExit l = cBacks.enc l := by
  unfold wExit
  rw [encL_congr fun a ha => wBack_eq (h.2 a ha)]
  rfl

theorem bNeed_iff (n : NeedA) (h : 0 ≤ n.2 ∧ n.2 ≤ 4294967295) : bNeed n = false ↔ cNeed.ok n := by
  obtain ⟨a, b⟩ := n
  unfold bNeed
  simp only [List.any_cons, List.any_nil, Bool.or_false, badI_iff]
  show _ ↔ cN.ok a ∧ (cNum 4294967295 (by decide)).ok b
  have w : (cNum 4294967295 (by decide)).ok b := h
  simp only [w, and_true]
theorem wNeed_eq {n : NeedA} (h : cNeed.ok n) : wNeed n = cNeed.enc n := by
  obtain ⟨a, b⟩ := n
  obtain ⟨h1, h2⟩ := h
  unfold wNeed
  simp only [encL, encI_ok h1, List.append_nil]
  rfl

theorem bFast_iff (f : FastA) (h : TyF f) : bFast f = false ↔ cFast.ok f := by
  obtain ⟨a, b, c, e, n⟩ := f
  unfold bFast
  rw [Bool.or_eq_false_iff, Bool.or_eq_false_iff, Bool.or_eq_false_iff, Bool.or_eq_false_iff, Bool.or_eq_false_iff, Bool.or_eq_false_iff,
    any_iff (P := cSpec.ok) fun s hs => bSpec_iff s (h.1 s hs), any_iff (P := cBacks.ok) fun s hs => bExit_iff s, any_iff (P := cNeed.ok) fun s hs => bNeed_iff s (h.2 s hs)]
  simp only [bInts_iff, decide_eq_false_iff_not, Nat.not_lt, List.mem_cons, List.not_mem_nil, or_false, forall_eq_or_imp, forall_eq]
  show _ ↔ cN.ok a ∧ cN.ok b ∧ (c.length ≤ 4000 ∧ ∀ s ∈ c, cSpec.ok s) ∧ (e.length ≤ 2000 ∧ ∀ s ∈ e, cBacks.ok s) ∧ (n.length ≤ 100 ∧ ∀ s ∈ n, cNeed.ok s)
  constructor
  · rintro ⟨⟨⟨⟨⟨⟨⟨h1, h2⟩, h3⟩, h4⟩, h5⟩, h6⟩, h7⟩, h8⟩; exact ⟨h1, h2, ⟨h3, h4⟩, ⟨h5, h6⟩, h7, h8⟩
  · rintro ⟨h1, h2, ⟨h3, h4⟩, ⟨h5, h6⟩, h7, h8⟩; exact ⟨⟨⟨⟨⟨⟨⟨h1, h2⟩, h3⟩, h4⟩, h5⟩, h6⟩, h7⟩, h8⟩
theorem wFast_eq {f : FastA} (h : cFast.ok f) : wFast f = cFast.enc f := by
  obtain ⟨a, b, c, e, n⟩ := f
  obtain ⟨h1, h2, ⟨h3, h4⟩, ⟨h5, h6⟩, h7, h8⟩ := h
  unfold wFast
  simp only [encL, encI_ok h1, encI_ok h2, encL_congr fun s hs => wSpec_eq (h4 s hs), encL_congr fun s hs => wExit_eq (h6 s hs), encL_congr fun s hs => wNeed_eq (h8 s hs), List.append_nil, List.append_assoc]
  show _ = cN.enc a ++ (cN.enc b ++ ((encU 9 c.length ++ encL cSpec.enc c) ++ ((encU 9 e.length ++ encL cBacks.enc e) ++ (encU 9 n.length ++ encL cNeed.enc n))))
  simp only [List.append_assoc]
theorem ok_ty {f : FastA} (h : cFast.ok f) : TyF f := by
  obtain ⟨a, b, c, e, n⟩ := f
  obtain ⟨h1, h2, ⟨h3, h4⟩, ⟨h5, h6⟩, h7, h8⟩ := h
  exact ⟨fun s hs => (h4 s hs).1, fun s hs => (h8 s hs).2⟩
theorem RdB.ext0 {h h' : Heap} {b : V} {bs : List Nat} (k : RdB h b bs) (hE : Ext h h') : RdB h' b bs := ⟨k.rs.ext0 hE, k.by_, k.len⟩
theorem own_over {h : Heap} {id : Nat} {z c : List V} (k : Own h id (splice z 0 (V.agg c).cells)) (hl : c.length = z.length) : Own h id c := by
  have e : splice z 0 (V.agg c).cells = c := by
    show splice z 0 c = c
    cases z <;> exact over_all hl
  rwa [e] at k
end Am

/-
  Code by value is code; how long its bytes are.
-/
namespace Am
open Go
set_option linter.unusedSimpArgs false
set_option linter.unusedVariables false

theorem all2_ex {α β : Type} {R : α → β → Prop} : ∀ {es : List α}, (∀ c ∈ es, ∃ b, R c b) → ∃ l, All2 R es l
  | [], _ => ⟨[], All2.nil _⟩
  | c :: es, h => by
    obtain ⟨b, hb⟩ := h c (by simp)
    obtain ⟨l, hl, hr⟩ := all2_ex (es := es) fun x hx => h x (by simp [hx])
    refine ⟨b :: l, by simp [hl], fun i x y hx hy => ?_⟩
    cases i with
    | zero => simp at hx hy; subst hx hy; exact hb
    | succ i => exact hr i x y (by simpa using hx) (by simpa using hy)
theorem all2_map {α : Type} {f : α → List V} {es : List (List V)} {l : List α} (h : All2 (fun c a => c = f a) es l) : es = l.map f := by
  refine List.ext_getElem? fun i => ?_
  rw [List.getElem?_map]
  cases h1 : es[i]? with
  | none =>
    have : l[i]? = none := by rw [List.getElem?_eq_none_iff] at h1 ⊢; rw [← h.1]; exact h1
    rw [this]; rfl
  | some c =>
    obtain ⟨hi, _⟩ := List.getElem?_eq_some_iff.1 h1
    have hj : i < l.length := by rw [← h.1]; exact hi
    have h2 := List.getElem?_eq_getElem hj
    rw [h2, h.2 i c l[i] h1 h2]; rfl
theorem all2_mem {α β : Type} {R : α → β → Prop} {es : List α} {l : List β} (h : All2 R es l) {b : β} (hb : b ∈ l) : ∃ c ∈ es, R c b := by
  obtain ⟨i, hi, rfl⟩ := List.mem_iff_getElem.1 hb
  have hj : i < es.length := by rw [h.1]; exact hi
  exact ⟨es[i], List.getElem_mem hj, h.get hj hi⟩

theorem encL_bulk {α : Type} {f : α → List Nat} : ∀ {es : List (List V)} {l : List α}, All2 (fun e a => (f a).length ≤ 10 * bulkL e) es l → (encL f l).length ≤ 10 * bulkL (es.map .agg)
  | [], [], _ => by simp [encL]
  | [], _ :: _, h => by cases h.1
  | _ :: _, [], h => by cases h.1
  | e :: es, a :: l, h => by
    have h1 : (f a).length ≤ 10 * bulkL e := h.2 0 e a rfl rfl
    have h2 := encL_bulk (f := f) (es := es) (l := l) ⟨by simpa using h.1, fun i x y hx hy => h.2 (i + 1) x y (by simpa using hx) (by simpa using hy)⟩
    simp only [encL, List.length_append, List.map_cons, bulkL, bulkV]
    omega

theorem encU_10 (n : Nat) : (encU 9 n).length ≤ 10 := (encU_len 9 n).2
theorem encI_10 (n : Int) : (encI n).length ≤ 10 := (encU_len 9 _).2
theorem ints_10 : ∀ l : List Int, (encL encI l).length ≤ 10 * l.length
  | [] => Nat.le_refl _
  | a :: l => by
    have h1 := encI_10 a
    have h2 := ints_10 l
    simp only [encL, List.length_append, List.length_cons]
    omega
theorem wSpec_10 (s : SpecA) : (wSpec s).length ≤ 10 * bulkL (specC s) := by
  unfold wSpec
  have h1 := ints_10 [s.1, s.2.1, s.2.2.1, s.2.2.2.1, s.2.2.2.2.1, s.2.2.2.2.2.1]
  have h2 := encU_10 (zigN s.2.2.2.2.2.2)
  simp only [List.length_append, specC, bulkL, bulkV, List.length_cons, List.length_nil] at h1 ⊢
  omega
theorem wNeed_10 (n : NeedA) : (wNeed n).length ≤ 10 * bulkL (needC n) := by
  unfold wNeed
  have h1 := ints_10 [n.1]
  have h2 := encU_10 n.2.toNat
  simp only [List.length_append, needC, bulkL, bulkV, List.length_cons, List.length_nil] at h1 ⊢
  omega
end Am

/-
  Profiles as data: their bytes.
-/
namespace Am
open Go
set_option linter.unusedSimpArgs false
set_option linter.unusedVariables false

/-- A byte. -/
def cByte : Cod Int where
  enc a := [a.toNat]
  dec l := match l with
    | [] => none
    | x :: r => some (Int.ofNat x, r)
  ok a := 0 ≤ a ∧ a ≤ 255
  byt a h := by intro x hx; simp at hx; omega
  ed a r h := by
    show some (((a.toNat : Nat) : Int), r) = some (a, r)
    rw [Int.toNat_of_nonneg h.1]
  de l a r hb h := by
    cases l with
    | nil => cases h
    | cons x l =>
      simp only [Option.some.injEq, Prod.mk.injEq] at h
      obtain ⟨rfl, rfl⟩ := h
      have := hb x (by simp)
      refine ⟨⟨Int.natCast_nonneg x, ?_⟩, rfl⟩
      show (x : Int) ≤ 255
      omega

def cTop : Cod (Int × Int) := cSeq cByte cByte
def cSeen : Cod (Int × List (Int × Int)) := cSeq (cNum 1099511627776 (by decide)) (cList cTop 16384 (by decide))
def cProf : Cod (List (Int × List (Int × Int))) := cList cSeen 4096 (by decide)

/-- Its bytes are bytes. -/
def TyTop (t : Int × Int) : Prop := (0 ≤ t.1 ∧ t.1 ≤ 255) ∧ 0 ≤ t.2 ∧ t.2 ≤ 255
def TyProf (P : List (Int × List (Int × Int))) : Prop := ∀ s ∈ P, ∀ t ∈ s.2, TyTop t

theorem cTop_ok (t : Int × Int) : cTop.ok t ↔ TyTop t := Iff.rfl
theorem cSeen_ok (s : Int × List (Int × Int)) : cSeen.ok s ↔ (0 ≤ s.1 ∧ s.1 ≤ 1099511627776) ∧ s.2.length ≤ 16384 ∧ ∀ t ∈ s.2, TyTop t := Iff.rfl
theorem cProf_ok (P : List (Int × List (Int × Int))) : cProf.ok P ↔ P.length ≤ 4096 ∧ ∀ s ∈ P, cSeen.ok s := Iff.rfl

theorem enc_top (t : Int × Int) : cTop.enc t = [t.1.toNat, t.2.toNat] := rfl
theorem encL_top (l : List (Int × Int)) : (encL cTop.enc l).length = 2 * l.length := by
  induction l with
  | nil => rfl
  | cons t l ih => simp only [encL, List.length_append, ih, List.length_cons, enc_top, List.length_nil]; omega

/-- So many pairs of bytes. -/
theorem dRep_top : ∀ (n : Nat) (l : List Nat), (2 * n ≤ l.length → ∃ a, dRep cTop.dec n l = some (a, l.drop (2 * n)) ∧ a.length = n) ∧ (l.length < 2 * n → dRep cTop.dec n l = none)
  | 0, l => ⟨fun _ => ⟨[], rfl, rfl⟩, fun h => by omega⟩
  | n + 1, [] => ⟨fun h => by simp at h, fun _ => rfl⟩
  | n + 1, [x] => ⟨fun h => by simp at h; omega, fun _ => rfl⟩
  | n + 1, x :: y :: l => by
    have hd : cTop.dec (x :: y :: l) = some ((Int.ofNat x, Int.ofNat y), l) := rfl
    obtain ⟨k1, k2⟩ := dRep_top n l
    constructor
    · intro h
      obtain ⟨a, e1, e2⟩ := k1 (by simp at h; omega)
      refine ⟨(Int.ofNat x, Int.ofNat y) :: a, ?_, by simp [e2]⟩
      simp only [dRep, hd, e1]
      rw [show 2 * (n + 1) = 2 * n + 1 + 1 by omega, List.drop_succ_cons, List.drop_succ_cons]
    · intro h
      simp only [dRep, hd, k2 (by simp at h; omega)]
theorem dRep_top_step {n : Nat} {x y : Nat} {l : List Nat} : dRep cTop.dec (n + 1) (x :: y :: l) = (dRep cTop.dec n l).map fun p => ((Int.ofNat x, Int.ofNat y) :: p.1, p.2) := by
  have hd : cTop.dec (x :: y :: l) = some ((Int.ofNat x, Int.ofNat y), l) := rfl
  simp only [dRep, hd]
  cases dRep cTop.dec n l <;> rfl
end Am
namespace Am
open Go
/-- A reader over 'bs' whose last cell says that it is well: what is left to be read; none: it failed. -/
def RdSo (hb h : Heap) (r : Nat) (b : V) (bs : List Nat) : Option (List Nat) → Prop
  | some rest => hb.n ≤ r ∧ Ext hb h ∧ ∃ a, a ≤ bs.length ∧ rest = bs.drop a ∧ Own h r [b, .int .i64 (.ofNat a), .bool true]
  | none => hb.n ≤ r ∧ Ext hb h ∧ ∃ a : Nat, a ≤ bs.length ∧ Own h r [b, .int .i64 (.ofNat a), .bool false]

theorem RdSo.base {hb h : Heap} {r : Nat} {b : V} {bs : List Nat} {σ : Option (List Nat)} (k : RdSo hb h r b bs σ) : hb.n ≤ r ∧ Ext hb h ∧ r < h.n := by
  cases σ with
  | none => obtain ⟨h1, h2, a, _, h3⟩ := k; exact ⟨h1, h2, h3.1⟩
  | some l => obtain ⟨h1, h2, a, _, _, h3⟩ := k; exact ⟨h1, h2, h3.1⟩

/-- Other things turn. -/
theorem RdSo.ext {S : List Nat} {hb h h' : Heap} {r : Nat} {b : V} {bs : List Nat} {σ : Option (List Nat)} (k : RdSo hb h r b bs σ) (hE : ExtX S h h') (hr : r ∉ S) (hS : ∀ j ∈ S, hb.n ≤ j) : RdSo hb h' r b bs σ := by
  have hX : ∀ {h}, Ext hb h → ExtX S h h' → Ext hb h' := fun e k => e.step k fun j hj => .inr (hS j hj)
  cases σ with
  | none =>
    obtain ⟨h1, h2, a, ha, h3⟩ := k
    exact ⟨h1, hX h2 hE, a, ha, h3.ext hE hr⟩
  | some l =>
    obtain ⟨h1, h2, a, ha, hl, h3⟩ := k
    exact ⟨h1, hX h2 hE, a, ha, hl, h3.ext hE hr⟩
theorem RdSo.ext0 {hb h h' : Heap} {r : Nat} {b : V} {bs : List Nat} {σ : Option (List Nat)} (k : RdSo hb h r b bs σ) (hE : Ext h h') : RdSo hb h' r b bs σ := k.ext hE (by simp) (by simp)
end Am
namespace Am
open Go
def preL2 {α : Type} (as : List α) : Option (List α × List Nat) → Option (List α × List Nat)
  | none => none
  | some (xs, r) => some (as ++ xs, r)
theorem preL2_nil {α : Type} (o : Option (List α × List Nat)) : preL2 [] o = o := by
  cases o with
  | none => rfl
  | some y => obtain ⟨a, b⟩ := y; rfl
/-- One more of them is read. -/
theorem dRep_up {α : Type} {d : List Nat → Option (α × List Nat)} {as : List α} {x : α} {m : Nat} {l0 : List Nat} {total : Option (List α × List Nat)} (h : total = preL2 as (dRep d (m + 1) l0)) (hx : ∀ y l, d l0 = some (y, l) → x = y) :
    (rst (d l0) = none → total = none) ∧ ∀ l1, rst (d l0) = some l1 → total = preL2 (as ++ [x]) (dRep d m l1) := by
  subst h
  simp only [dRep]
  cases hd : d l0 with
  | none => exact ⟨fun _ => rfl, fun l1 e => by cases e⟩
  | some y =>
    obtain ⟨a, l'⟩ := y
    have := hx a l' hd
    subst this
    refine ⟨(fun e => by cases e), fun l1 e => ?_⟩
    cases e
    simp only
    cases dRep d m l' with
    | none => rfl
    | some z => obtain ⟨zs, l2⟩ := z; simp [preL2]
/-- What is new since a heap, but for a slice's own object. -/
def Zn2 (hA h : Heap) (v : V) (i : Nat) : Prop := hA.n ≤ i ∧ i < h.n ∧ i ∉ slIds v
theorem cList_aft {α : Type} (c : Cod α) {most : Nat} (hm : most < 18446744073709551616) {σ : Option (List Nat)} {n0 : Nat} (h : ∀ x l, aft (cNum most hm).dec σ = some (x, l) → Int.ofNat n0 = x) :
    aft (cList c most hm).dec σ = (match aft (cNum most hm).dec σ with
    | none => none
    | some (_, l) => dRep c.dec n0 l) := by
  cases σ with
  | none => rfl
  | some l =>
    show (match (cNum most hm).dec l with
      | none => none
      | some (n, r) => dRep c.dec n.toNat r) = _
    cases hd : (cNum most hm).dec l with
    | none => simp only [aft, hd]
    | some y =>
      obtain ⟨n, l'⟩ := y
      have := h n l' hd
      subst this
      simp only [aft, hd]
      rfl
end Am
namespace Am
open Go
/-- What is older than a writer's begin stays. -/
theorem wrOld {w : Nat} {hW h : Heap} {bv : V} (k : WrFr w hW .nils h bv) {id : Nat} {cs : List V} (ho : Own hW id cs) (hne : id ≠ w) : Own h id cs := ho.ext k.1 (by simp [slIds, hne])
theorem wrOwn {w : Nat} {h h' : Heap} {bv bv' : V} (k : WrFr w h bv h' bv') {id : Nat} {cs : List V} (ho : Own h id cs) (h1 : id ≠ w) (h2 : id ∉ slIds bv) : Own h' id cs ∧ id ∉ slIds bv' :=
  ⟨ho.ext k.1 (by simp [h1, h2]), fun e => by
    rcases k.2 id e with e | e
    · exact h2 e
    · have := ho.1; omega⟩
theorem wrRs {w : Nat} {hW h : Heap} {bv : V} (k : WrFr w hW .nils h bv) {esz : Nat} {v : V} {l : List (List V)} (hr : RS hW esz v l) (hv : ∀ j ∈ slIds v, j ≠ w) : RS h esz v l := k.rs hr fun j hj => ⟨hv j hj, by simp [slIds]⟩
/-- A cell that holds a slice one appends to: another one in it. -/
theorem cell_more {h h1 h' : Heap} {io : Nat} {bv bv' : V} {l : List (List V)} {esz : Nat} (ho : Ow h1 esz bv' l) (hf : Fr h bv h1 bv') (hio : io < h.n) (hn : io ∉ slIds bv) (k1 : Own h' io (splice [bv] 0 bv'.cells)) (k2 : ExtX [io] h1 h') : Own h' io [bv'] ∧ Ow h' esz bv' l ∧ WrFr io h bv h' bv' ∧ io ∉ slIds bv' := by
  rw [V.cells1 ho.rs.one] at k1
  have hn' : io ∉ slIds bv' := fun e => by
    rcases hf.2 io e with e | e
    · exact hn e
    · omega
  exact ⟨k1, ho.ext k2 (fun j hj e => by simp at e; subst e; exact hn' hj), ⟨(hf.1.mono fun j hj => by simp [hj]).trans (k2.mono fun j hj => by simp at hj; simp [hj]), hf.2⟩, hn'⟩
theorem byteC_of {a : Int} (h : 0 ≤ a) : byteC a.toNat = [V.int .u8 a] := by
  have e : Int.ofNat a.toNat = a := by show ((a.toNat : Nat) : Int) = a; omega
  simp only [byteC, e]
theorem enc_seen (s : Int × List (Int × Int)) : cSeen.enc s = encU 9 s.1.toNat ++ (encU 9 s.2.length ++ encL cTop.enc s.2) := rfl
theorem enc_prof (P : List (Int × List (Int × Int))) : cProf.enc P = encU 9 P.length ++ encL cSeen.enc P := rfl
theorem seen_ge (s : Int × List (Int × Int)) : 1 ≤ (cSeen.enc s).length := by rw [enc_seen]; have := encU_ge 9 s.1.toNat; simp only [List.length_append]; omega
theorem top_ge (t : Int × Int) : 1 ≤ (cTop.enc t).length := by rw [enc_top]; simp
end Am
