/-
  An abstract machine for Go programs, sound for the model: part C. Conditions: none beyond those that each theorem states.
-/
import Derived.ChangeSame
import Derived.RowKit
import Derived.Lib.LaidTab
import Derived.ChangeReads
import Derived.ReadAgain
import Derived.Test.YtncbfghlokfmeaaGreatDoorAmB
/-
  A run with a script: some calls are answered by a list of answers, one behind the other, and logged; whatever holds of the logged calls makes the run one of the plain evaluator.
-/
namespace Am
open Go

/-- An answer of the script: a call's, an operation's. -/
inductive SI where
  | ans (f : Nat) (v : V)
  | val (v : V)

/-- What was answered so. -/
inductive LE where
  | call (f : Nat) (args : List V) (v : V)
  | bin (op : BinOp) (q : EqK) (x y v : V)

def LE.ok (P : CallF) : LE → Prop
  | .call f args v => ∀ h, P f args h = some (v, h)
  | .bin op q x y v => binV op q x y = some v

structure Sc where
  script : List SI
  log : List LE

abbrev CallL := Nat → List V → Heap → Sc → Option (V × Heap × Sc)
def ScExt (s s' : Sc) : Prop := ∃ l, s'.log = l ++ s.log
theorem ScExt.trans {a b c : Sc} (h : ScExt a b) (k : ScExt b c) : ScExt a c := by
  obtain ⟨l, hl⟩ := h
  obtain ⟨m, hm⟩ := k
  exact ⟨m ++ l, by rw [hm, hl, List.append_assoc]⟩
variable {P : CallF} {callL : CallL} {call : CallF}

end Am

/-
  The same evaluators by bare recursors: the kernel copies less. They are equal to the plain ones.
-/
namespace Am
open Go

noncomputable def opcR (call : CallF) (k : AK) : List V → List V → Heap → Res :=
  AK.rec (motive := fun _ => List V → List V → Heap → Res)
    (fun x => o_mv x)
    (fun c a b => o_pick c a b)
    (fun zero => o_alloc zero)
    (fun size x => o_box size x)
    (fun zero parts => o_build zero parts)
    (fun n esz zero parts => o_bslice n esz zero parts)
    (fun ag n a => o_load ag n a)
    (fun n a x => o_store n a x)
    (fun x => o_nilck x)
    (fun op q x y => o_bin op q x y)
    (fun op x => o_un op x)
    (fun k x => o_toInt k x)
    (fun x => o_strId x)
    (fun x => o_toStr x)
    (fun x => o_toBytes x)
    (fun t x => o_mkI t x)
    (fun f first caps => o_mkF f first caps)
    (o_mkM)
    (fun esz bytes zero l c => o_mkS esz bytes zero l c)
    (fun x lo hi => o_slS x lo hi)
    (fun esz x lo hi mx => o_slL esz x lo hi mx)
    (fun n esz x lo hi => o_slA n esz x lo hi)
    (fun off x => o_fadr off x)
    (fun ag n off x => o_fld ag n off x)
    (fun esz x i => o_iadr esz x i)
    (fun len esz x i => o_iadrA len esz x i)
    (fun x i => o_idxS x i)
    (fun ag len esz x i => o_idxA ag len esz x i)
    (fun kk zero ok m k => o_look kk zero ok m k)
    (fun kk m k x => o_mput kk m k x)
    (fun kk m k => o_mdel kk m k)
    (fun k x => o_len k x)
    (fun x l => o_mx x l)
    (fun x l => o_mn x l)
    (fun esz s x => o_app esz s x)
    (fun esz zero s n => o_appz esz zero s n)
    (fun esz d s => o_copy esz d s)
    (fun i x => o_ext i x)
    (fun f args => o_call call f args)
    (fun f args => o_callv call f args)
    (fun x => o_range x)
    (fun _u0 => fun _ _ _ => none)
    (fun t zero ok x => o_tassert t zero ok x)
    (fun i ag n a => o_chk i ag n a)
    (fun i kk zero ok m k => o_chkLook i kk zero ok m k)
    (fun i m => o_chkLen i m)
    (fun i => o_snap i)
    (fun i j => o_chkObj i j)
    (fun s c => o_xcount s c)
    (fun s c => o_xindex s c)
    (fun a b => o_xcmp a b)
    (o_die) k

theorem opcR_eq (call : CallF) (k : AK) : opcR call k = opc call k := by cases k <;> rfl

noncomputable def stepR (call : CallF) (o : AOp) (ls vs : List V) (h : Heap) : Res :=
  match wantedV ls o.g with
  | none => none
  | some false => some (.tuple [], h)
  | some true => opcR call o.k ls vs h

theorem stepR_eq (call : CallF) (o : AOp) (ls vs : List V) (h : Heap) : stepR call o ls vs h = stepO call o ls vs h := by
  unfold stepR stepO
  rw [opcR_eq] <;> rfl

noncomputable def runOpsR (call : CallF) (vs : List V) (l : List AOp) : List V → Heap → Option (List V × Heap) :=
  List.rec (motive := fun _ => List V → Heap → Option (List V × Heap)) (fun ls h => some (ls, h)) (fun o _ ih ls h => match stepR call o ls vs h with
    | some (v, h') => ih (v :: ls) h'
    | none => none) l

theorem runOpsR_eq (call : CallF) (vs : List V) : ∀ (l : List AOp) (ls : List V) (h : Heap), runOpsR call vs l ls h = runOps call l ls vs h
  | [], _, _ => rfl
  | o :: l, ls, h => by
    show (match stepR call o ls vs h with | some (v, h') => runOpsR call vs l (v :: ls) h' | none => none) = _
    rw [stepR_eq]
    unfold runOps
    cases stepO call o ls vs h with
    | none => rfl
    | some r =>
      obtain ⟨v, h'⟩ := r
      exact runOpsR_eq call vs l _ _

noncomputable def x_regR (call : CallF) (ops : List AOp) (outs : List (Nat × Nat)) (vs : List V) (h : Heap) : Out :=
  match runOpsR call vs ops [] h with
  | some (ls, h') => match outsV ls outs vs with
    | some vs' => some (.normal, vs', h')
    | none => none
  | none => none

theorem x_regR_eq (call : CallF) (ops : List AOp) (outs : List (Nat × Nat)) : x_regR call ops outs = x_reg call ops outs := by
  funext vs h
  unfold x_regR x_reg
  rw [runOpsR_eq] <;> rfl

noncomputable def iterR (f : List V → Heap → Out) (n : Nat) : List V → Heap → Out :=
  Nat.rec (motive := fun _ => List V → Heap → Out) (fun _ _ => none) (fun _ ih vs h => match f vs h with
  | some (.normal, vs', h') => ih vs' h'
  | some (.exit i, vs', h') => some (.exit i, vs', h')
  | some (.ret, vs', h') => some (.ret, vs', h')
  | none => none) n

theorem iterR_eq (f : List V → Heap → Out) : ∀ n, iterR f n = iter f n
  | 0 => by funext vs h; rfl
  | n + 1 => by
    funext vs h
    show (match f vs h with | some (.normal, vs', h') => iterR f n vs' h' | some (.exit i, vs', h') => some (.exit i, vs', h') | some (.ret, vs', h') => some (.ret, vs', h') | none => none) = _
    rw [iterR_eq f n]
    rfl

noncomputable def execR (call : CallF) (fuel : Nat) (c : AC) : List V → Heap → Out :=
  AC.rec (motive := fun _ => List V → Heap → Out) (fun vs h => some (.normal, vs, h)) (fun ops outs => x_regR call ops outs) (fun ops s1 s2 outs => x_reg2 call ops s1 s2 outs) (fun _ _ fa fb => x_seq fa fb) (fun c _ _ fa fb => x_cond c fa fb) (fun s a _ => x_coin s a)
    (fun id _ fb => x_block id fb) (fun _ fb => iterR fb fuel) (fun id vs h => some (.exit id, vs, h)) (fun vs h => some (.ret, vs, h)) (fun _ _ => none) c

theorem execR_eq (call : CallF) (fuel : Nat) : ∀ c, execR call fuel c = exec call fuel c
  | .skip => rfl
  | .reg ops outs => x_regR_eq call ops outs
  | .reg2 .. => rfl
  | .seq a b => by
    show x_seq (execR call fuel a) (execR call fuel b) = _
    rw [execR_eq call fuel a, execR_eq call fuel b]
    rfl
  | .cond c a b => by
    show x_cond c (execR call fuel a) (execR call fuel b) = _
    rw [execR_eq call fuel a, execR_eq call fuel b]
    rfl
  | .coin .. => rfl
  | .block id b => by
    show x_block id (execR call fuel b) = _
    rw [execR_eq call fuel b]
    rfl
  | .loop b => by
    show iterR (execR call fuel b) fuel = _
    rw [execR_eq call fuel b, iterR_eq]
    rfl
  | .exit _ => rfl
  | .ret => rfl
  | .stuck => rfl

noncomputable def bodyR (call : CallF) (fuel : Nat) (a : AFunc) (args : List V) (h : Heap) : Option (V × Heap) :=
  match Nat.beq args.length a.nparams with
  | false => none
  | true => match execR call fuel a.code (initV a.slots args) h with
    | some (.exit _, _, _) => none
    | some (_, vs, h') => match resV vs h' a.res with
      | some l => some (packV l, h')
      | none => none
    | none => none

theorem bodyR_eq (call : CallF) (fuel : Nat) (a : AFunc) (args : List V) (h : Heap) : bodyR call fuel a args h = body call fuel a args h := by
  unfold bodyR body
  rw [execR_eq] <;> rfl

noncomputable def runR (T : Nat → Option AFunc) (O : CallF) (n : Nat) : CallF :=
  Nat.rec (motive := fun _ => CallF) (fun _ _ _ => none) (fun n ih f args h => match O f args h with
    | some r => some r
    | none => match T f with
      | some a => bodyR ih n a args h
      | none => none) n

theorem runR_eq (T : Nat → Option AFunc) (O : CallF) : ∀ n, runR T O n = run T O n
  | 0 => by funext f args h; rfl
  | n + 1 => by
    funext f args h
    show (match O f args h with | some r => some r | none => match T f with | some a => bodyR (runR T O n) n a args h | none => none) = _
    rw [runR_eq T O n]
    simp only [bodyR_eq]
    rfl

/-- As 'memo_run'. -/
theorem memo_runR {P : Program} {glob : Nat → Option V} {T : Nat → Option AFunc} {O : CallF} (hm : P.follows .mixedOrders = true) (hg : ∀ g v, glob g = some v → Flat (.vptr v 0)) (hT : TableOk P glob T) (hO : CallOk ⟨P, glob⟩ O) {f : Nat} {args : List V} {u : V} (n d : Nat)
    (ha : V.flatBL args = true) (h : ((runR T O n f args Heap.empty).bind fun r => flatV r.2 d r.1) = some u) : Memo.ok ⟨P, glob⟩ ⟨f, args, u⟩ :=
  memo_run hm hg hT hO n d ha (by rw [← runR_eq]; exact h)

/-! ### With a script -/

end Am

/-
  From a run of the abstract machine to the close of a statement.
-/
namespace Am
open Go Go.ChangeShapes Go.WideShapes

/-- Of what was there nothing has turned. -/
structure Still (W W' : World) : Prop where
  size : W.heap.size ≤ W'.heap.size
  heap : ∀ b, b < W.heap.size → W'.heap[b]? = W.heap[b]?
  os : W'.os = W.os
  output : W'.output = W.output

theorem Good.still {n : Nat} {E E' : Env} {w w' : World} (h : Good n E w E' w') (hE : ∀ id ver, E.mu id ver = none) : Still w w' :=
  ⟨h.size, fun b hb => (h.frame b hb (owns_none hE b)).1, h.os, h.output⟩

theorem Still.kept {W W' : World} (h : Still W W') (may : MemPlace → Prop) : W.keptBut W' may := by
  refine ⟨h.os, h.output, fun i hi => ?_⟩
  rw [h.heap i hi]
  cases W.heap[i]? with
  | none => rfl
  | some o =>
    cases o with
    | cells c t fr => exact ⟨rfl, rfl, rfl, fun _ _ => rfl⟩
    | map es clock => exact Or.inr ⟨rfl, rfl⟩
    | _ => rfl

theorem Still.frozen {W W' : World} (h : Still W W') {a : Addr} (ha : a.block < W.heap.size) : W'.frozen? a = W.frozen? a := by
  unfold World.frozen?
  rw [h.heap _ ha]

theorem post_of_still {Hd : Type} {enc : TypeId × Value → Hd} {P : Program} {f : Func} {s : ChangeSpec} {apart fresh handsOn again : Bool} {W W' : World} {args : Array Value} {v : Value} {ds gs : List (DataW Hd)} {before pa pv : List MemPlace}
    (hW : DataW.Whole enc P f.params.toList s.vars apart W args.toList ds gs before)
    (hres : ∀ (b : Nat) (sp : Nat → Bool) (hd : Bool), DataW.TrodAll enc P W' b sp hd f.resultTypes.toList (v.resultList f.resultTypes.size) (s.fn Hd (ds ++ gs)).results [])
    (hargs : ∀ sp : Nat → Bool, (∀ p ∈ before, sp p.block = true) → DataW.TrodAll enc P W' 0 sp true f.params.toList args.toList (s.fn Hd (ds ++ gs)).args pa)
    (hvars : ∀ sp : Nat → Bool, (∀ p ∈ before, sp p.block = true) → DataW.TrodVars enc P W' sp s.vars (s.fn Hd (ds ++ gs)).vars pv)
    (hps : before = pa ++ pv) (hst : Still W W')
    (hok : ∀ (j : Nat) (t : TypeId) (r : Value), f.resultTypes[j]? = some t → (v.resultList f.resultTypes.size)[j]? = some r → Value.okWide P W' .any 0 t r) :
    s.post enc P f apart fresh handsOn again W args v W' := by
  have hlt : ∀ p ∈ before, p.block < W.heap.size := fun p hp => hW.lt p hp
  have hold : ∀ p ∈ before, (fun b => decide (b < W.heap.size)) p.block = true := fun p hp => by simpa using hW.lt p hp
  refine ⟨ds, gs, before, [], pa, pv, hW, hres _ _ _, hargs _ hold, hvars _ hold, World.keptBut_mono (fun p hp => ⟨hp, ?_⟩) (hst.kept (· ∈ before)), fun _ => ?_⟩
  · rw [hps, List.mem_append] at hp
    exact Or.inr hp
  · obtain ⟨_, _, _, _, _, hz, hn⟩ := hW
    refine ⟨hok, _, _, ([] ++ pa) ++ pv, ⟨[] ++ pa, pv, trodAll_append (hargs _ (fun _ _ => rfl)) (hres _ _ _), hvars _ (fun _ _ => rfl), rfl, ?_, ?_⟩, ?_⟩
    · intro b off hp
      have hp' : MemPlace.cell b off ∈ before := by rw [hps]; simpa using hp
      rw [hst.frozen (a := ⟨b, off, none⟩) (hlt _ hp')]
      exact hz b off hp'
    · intro ha
      have := hn ha
      rw [hps] at this
      simpa using this
    · intro p hp _
      rw [hps]
      simpa using hp

/-- All memory, as it stands. -/
noncomputable def allIm (W : World) : Nat → Option (Array Value) := fun b =>
  match W.heap[b]? with
  | some (.cells c _ _) => some c
  | _ => none

/-- No objects yet, and all memory stays as it is. -/
noncomputable abbrev E0 (W : World) (t : Nat → Option Value) : Env := ⟨fun _ _ => none, allIm W, t⟩

theorem allIm_some {W : World} {b : Nat} {c : Array Value} (h : allIm W b = some c) : ∃ t fr, W.heap[b]? = some (.cells c t fr) := by
  unfold allIm at h
  split at h
  · rename_i c' t fr hb
    simp only [Option.some.injEq] at h; subst h
    exact ⟨t, fr, hb⟩
  · cases h

theorem allIm_mk {W : World} {b : Nat} {c : Array Value} {t : TypeId} {fr : Nat × Nat} (h : W.heap[b]? = some (.cells c t fr)) : allIm W b = some c := by
  unfold allIm; rw [h]

theorem start_R {C : Ctx} {W : World} {t : Nat → Option Value} (hg : ∀ g v, C.glob g = some v → GlR (E0 W t) g v) : R C (E0 W t) Heap.empty W :=
  ⟨(fun _ _ _ h => by cases h), (fun _ _ _ h => by cases h), (fun _ _ _ _ _ _ h => by cases h), (fun _ _ h => allIm_some h), (fun _ _ _ h => by cases h), hg, (fun id _ => by cases id <;> rfl)⟩

/-- A table of the library's. -/
theorem glob_tab {P : Program} {W : World} {t : Nat → Option Value} {name : String} {k : IntKind} {zs : List Int} {g : Nat} (hn : P.globalNamed name = some g) (h : Go.Lib.TabIs P W name k zs) :
    VR (E0 W t) (.vptr (.agg (zs.map fun z => .int k z)) 0) (.pointer (some ⟨g, 0, none⟩)) := by
  unfold Go.Lib.TabIs World.var? at h
  rw [hn] at h
  simp only [Option.bind_some] at h
  split at h
  · rename_i cs ty fr hb
    simp only [Option.some.injEq] at h; subst h
    have := VR.vptr (E := E0 W t) (v := .agg (zs.map fun z => .int k z)) (off := 0) (b := g) (o := 0) (allIm_mk hb) (by simp [V.cells]) (fun i c x hc hx => by
      simp only [V.cells, List.getElem?_map, Option.map_eq_some_iff] at hc
      obtain ⟨z, hz, rfl⟩ := hc
      simp [hz] at hx
      subst hx
      exact .int k z)
    simpa using this
  · cases h

theorem law_calls {C : Ctx} {f : Nat} {args : List V} {H' : Heap} (h : CallsTo C f args Heap.empty (.bool true) H') {xs : Array Value} {W : World} {t : Nat → Option Value}
    (hg : ∀ g v, C.glob g = some v → GlR (E0 W t) g v)
    (hs : xs.size = args.length) (hrel : ∀ (i : Nat) (a : V) (x : Value), args[i]? = some a → xs[i]? = some x → VR (E0 W t) a x) :
    Calls C.P f xs W fun e w' => e = .returned (.bool true) ∧ Still W w' := by
  refine (h.2.2 (E0 W t) W xs (start_R hg) hs hrel).mono ?_
  rintro e w' ⟨x, E', rfl, _, hv, hG⟩
  cases hv
  exact ⟨rfl, hG.still fun _ _ => rfl⟩

end Am

/-
  Plain data as the row reads it, by value.
-/
namespace Am
open Go

variable {Hd : Type}

mutual
/-- What was read, as the cells of an abstract value. -/
def cellsD : DataW Hd → List V
  | .lit (.bool b) => [.bool b]
  | .lit (.int k n) => [.int k n]
  | .lit (.string s) => [.str s]
  | .nil => [.nils]
  | .slice es _ => [.vec (elemsD es)]
  | .agg ps => cellsDL ps
  | _ => []
def elemsD : List (DataW Hd) → List V
  | [] => []
  | d :: l => .agg (cellsD d) :: elemsD l
def cellsDL : List (DataW Hd) → List V
  | [] => []
  | d :: l => cellsD d ++ cellsDL l
end

/-- Parts, one behind the other, from a place to the end. -/
def consecS : List (Nat × Nat) → Nat → Nat → Bool
  | [], o, n => o == n
  | (a, b) :: l, o, n => a == o && consecS l (o + b) n

/-- Is a type plain data, its parts among 'ts'? -/
def plainT (P : Program) (ts : List TypeId) (t : TypeId) : Bool :=
  match P.underlying t with
  | some .bool => P.cellsOf t == 1
  | some (.int _) => P.cellsOf t == 1
  | some .string => P.cellsOf t == 1
  | some (.slice e) => P.cellsOf t == 1 && ts.contains e && decide (0 < P.cellsOf e)
  | some (.struct fs) => fs.toList.all (fun f => ts.contains f.type) && consecS (fs.toList.map fun f => (f.offset, P.cellsOf f.type)) 0 (P.cellsOf t)
  | some (.array n e) => ts.contains e && consecS ((List.range n).map fun i => (i * P.cellsOf e, P.cellsOf e)) 0 (P.cellsOf t)
  | _ => false

def plainB (P : Program) (ts : List TypeId) : Bool := ts.all (plainT P ts)

theorem get_elemsD : ∀ (ds : List (DataW Hd)) (i : Nat) (v : V), (elemsD ds)[i]? = some v → ∃ d, ds[i]? = some d ∧ v = .agg (cellsD d)
  | [], i, v, h => by simp [elemsD] at h
  | d :: l, 0, v, h => by
    simp only [elemsD, List.getElem?_cons_zero, Option.some.injEq] at h
    exact ⟨d, rfl, h.symm⟩
  | d :: l, i + 1, v, h => by
    simp only [elemsD, List.getElem?_cons_succ] at h
    obtain ⟨d', h1, h2⟩ := get_elemsD l i v h
    exact ⟨d', by simpa using h1, h2⟩

theorem length_elemsD : ∀ (ds : List (DataW Hd)), (elemsD ds).length = ds.length
  | [] => rfl
  | d :: l => by simp [elemsD, length_elemsD l]

theorem cat_cells {E : Env} {cs : List Value} : ∀ (sp : List (Nat × Nat)) (ds : List (DataW Hd)) (o : Nat), consecS sp o cs.length = true → ds.length = sp.length →
    (∀ (i : Nat) (s : Nat × Nat) (d : DataW Hd), sp[i]? = some s → ds[i]? = some d → (cellsD d).length = s.2 ∧ ∀ (j : Nat) (c : V) (v : Value), (cellsD d)[j]? = some c → ((cs.drop s.1).take s.2)[j]? = some v → VR E c v) →
    (cellsDL ds).length + o = cs.length ∧ ∀ (j : Nat) (c : V) (v : Value), (cellsDL ds)[j]? = some c → (cs.drop o)[j]? = some v → VR E c v
  | [], ds, o, h, hl, _ => by
    have : ds = [] := List.eq_nil_of_length_eq_zero hl
    subst this
    simp only [consecS, beq_iff_eq] at h
    simp [cellsDL, h]
  | (a, b) :: sp, ds, o, h, hl, hk => by
    cases ds with
    | nil => cases hl
    | cons d ds =>
      simp only [consecS, Bool.and_eq_true, beq_iff_eq] at h
      obtain ⟨rfl, h⟩ := h
      obtain ⟨k1, k2⟩ := hk 0 (a, b) d rfl rfl
      simp only at k1 k2
      obtain ⟨k3, k4⟩ := cat_cells sp ds (a + b) h (by simpa using hl) (fun i s d' hs hd => hk (i + 1) s d' (by simpa using hs) (by simpa using hd))
      refine ⟨by simp only [cellsDL, List.length_append, k1]; omega, fun j c v hc hv => ?_⟩
      simp only [cellsDL] at hc
      by_cases hj : j < b
      · rw [List.getElem?_append_left (by omega)] at hc
        exact k2 j c v hc (by rw [List.getElem?_take, if_pos hj]; exact hv)
      · rw [List.getElem?_append_right (by omega), k1] at hc
        refine k4 (j - b) c v hc ?_
        rw [List.getElem?_drop] at hv ⊢
        rw [show a + b + (j - b) = a + j from by omega]
        exact hv

theorem trod_array_get {enc : TypeId × Value → Hd} {P : Program} {w : World} {base : Nat} {spare : Nat → Bool} {held : Bool} {fuel : Nat} {t e : TypeId} {m : Nat} {cs : List Value} {x : DataW Hd × List MemPlace}
    (ht : P.underlying t = some (.array m e)) (h : DataW.trod enc P w base spare held fuel t cs = some x) :
    ∃ (xs : List (DataW Hd × List MemPlace)) (n : Nat), fuel = n + 1 ∧ x = (.agg (xs.map (·.1)), xs.flatMap (·.2)) ∧ cs.length = P.cellsOf t ∧ xs.length = m ∧
      ∀ i, i < m → DataW.trod enc P w base spare held n e ((cs.drop (i * P.cellsOf e)).take (P.cellsOf e)) = xs[i]? := by
  cases fuel with
  | zero => simp [DataW.trod] at h
  | succ n =>
    unfold DataW.trod at h
    rw [ht] at h
    split at h <;> simp_all
    obtain ⟨hl, xs, hp, hd⟩ := h
    exact ⟨xs, hd.symm, by simpa using mapM_some_length hp, fun i hi => mapM_some_get hp i i (by simp [hi])⟩

theorem add_off (a : Addr) (n : Nat) (h : a.spot = none) : a.add n = ⟨a.block, a.off + n, none⟩ := by
  unfold Addr.add
  split
  · rename_i h0
    subst h0
    cases a
    simp_all
  · rfl

theorem cell_im {W : World} {b o : Nat} {x : Value} (h : W.cell? ⟨b, o, none⟩ = some x) : ∃ c, allIm W b = some c ∧ c[o]? = some x := by
  unfold World.cell? at h
  split at h
  · rename_i c t fr hb
    simp only [Option.isSome_none] at h
    exact ⟨c, allIm_mk hb, by simpa using h⟩
  · cases h

theorem open_ok {enc : TypeId × Value → Hd} {P : Program} {W : World} {tk : Nat → Option Value} {ts : List TypeId} {base : Nat} {spare : Nat → Bool} {held : Bool} (hp : plainB P ts = true) :
    ∀ (fuel : Nat) (t : TypeId) (cs : List Value) (x : DataW Hd × List MemPlace), t ∈ ts → DataW.trod enc P W base spare held fuel t cs = some x →
    (cellsD x.1).length = P.cellsOf t ∧ cs.length = P.cellsOf t ∧ ∀ (i : Nat) (c : V) (v : Value), (cellsD x.1)[i]? = some c → cs[i]? = some v → VR (E0 W tk) c v
  | 0, t, cs, x, ht, h => by simp [DataW.trod] at h
  | fuel + 1, t, cs, x, ht, h => by
    have hpt := List.all_eq_true.1 hp t ht
    unfold plainT at hpt
    split at hpt
    · rename_i hu
      obtain ⟨b, rfl, rfl⟩ := DataW.trod_bool hu h
      simp only [beq_iff_eq] at hpt
      refine ⟨by simp [cellsD, hpt], by simp [hpt], fun i c v hc hv => ?_⟩
      cases i with
      | zero => simp [cellsD] at hc hv; subst hc; subst hv; exact .bool b
      | succ i => simp [cellsD] at hc
    · rename_i hu
      obtain ⟨n, rfl, rfl, _⟩ := DataW.trod_int hu h
      simp only [beq_iff_eq] at hpt
      refine ⟨by simp [cellsD, hpt], by simp [hpt], fun i c v hc hv => ?_⟩
      cases i with
      | zero => simp [cellsD] at hc hv; subst hc; subst hv; exact .int _ n
      | succ i => simp [cellsD] at hc
    · rename_i hu
      obtain ⟨s, rfl, rfl, _⟩ := DataW.trod_string hu h
      simp only [beq_iff_eq] at hpt
      refine ⟨by simp [cellsD, hpt], by simp [hpt], fun i c v hc hv => ?_⟩
      cases i with
      | zero =>
        simp [cellsD] at hc hv; subst hc; subst hv
        have := VR.str (E := E0 W tk) s.data.toList
        simpa using this
      | succ i => simp [cellsD] at hc
    · rename_i e hu
      simp only [Bool.and_eq_true, beq_iff_eq, List.contains_iff_mem, decide_eq_true_eq] at hpt
      obtain ⟨⟨h1, he⟩, hce⟩ := hpt
      rcases DataW.trod_slice hu h with ⟨rfl, rfl⟩ | ⟨a, len, cap, elems, rest, n, hn, rfl, rfl, hb, hlc, _, hel, hget, _⟩
      · refine ⟨by simp [cellsD, h1], by simp [h1], fun i c v hc hv => ?_⟩
        cases i with
        | zero => simp [cellsD] at hc hv; subst hc; subst hv; exact .nils
        | succ i => simp [cellsD] at hc
      · cases hn
        refine ⟨by simp [cellsD, h1], by simp [h1], fun i c v hc hv => ?_⟩
        cases i with
        | succ i => simp [cellsD] at hc
        | zero =>
          simp [cellsD] at hc hv; subst hc; subst hv
          have hlen : (elemsD (elems.map (·.1))).length = len := by rw [length_elemsD]; simpa using hel
          by_cases hz : len = 0
          · have : elems = [] := List.eq_nil_of_length_eq_zero (by omega)
            subst this
            subst hz
            exact .vec0 a cap
          · -- each element's cells
            have each : ∀ i, i < len → ∃ cs' y, W.cells? base (a.add (i * P.cellsOf e)) (P.cellsOf e) = some cs' ∧ elems[i]? = some y ∧ DataW.trod enc P W base spare held fuel e cs' = some y := by
              intro i hi
              have := hget i hi
              obtain ⟨y, hy⟩ : ∃ y, elems[i]? = some y := ⟨elems[i]'(by omega), by simp [hel, hi]⟩
              rw [hy] at this
              obtain ⟨cs', hc1, hc2⟩ := Option.bind_eq_some_iff.1 this
              exact ⟨cs', y, hc1, hy, hc2⟩
            have hspot : a.spot = none := by
              obtain ⟨cs', y, hc1, _, _⟩ := each 0 (by omega)
              obtain ⟨_, hl, hc⟩ := World.cells?_some hc1
              have h0 := hc 0 hce
              obtain ⟨v0, hv0⟩ : ∃ v0, cs'[0]? = some v0 := ⟨cs'[0]'(by omega), by simp [hl, hce]⟩
              rw [hv0] at h0
              simp only [Addr.add, Nat.zero_mul, if_true] at h0
              unfold World.cell? at h0
              split at h0
              · split at h0
                · cases h0
                · rename_i hs
                  cases hsp : a.spot with
                  | none => rfl
                  | some s => simp [hsp] at hs
              · cases h0
            have cellAt : ∀ i, i < len → ∃ cs' y, elems[i]? = some y ∧ cs'.length = P.cellsOf e ∧ DataW.trod enc P W base spare held fuel e cs' = some y ∧
                ∀ j, j < P.cellsOf e → W.cell? ⟨a.block, a.off + (i * P.cellsOf e + j), none⟩ = cs'[j]? := by
              intro i hi
              obtain ⟨cs', y, hc1, hc2, hc3⟩ := each i hi
              obtain ⟨_, hl, hc⟩ := World.cells?_some hc1
              refine ⟨cs', y, hc2, hl, hc3, fun j hj => ?_⟩
              rw [← hc j hj, add_off a _ hspot, add_off _ _ rfl, Nat.add_assoc]
            obtain ⟨blk, hblk⟩ : ∃ blk, allIm W a.block = some blk := by
              obtain ⟨cs', y, _, hl, _, hc⟩ := cellAt 0 (by omega)
              have h0 := hc 0 hce
              obtain ⟨v0, hv0⟩ : ∃ v0, cs'[0]? = some v0 := ⟨cs'[0]'(by omega), by simp [hl, hce]⟩
              rw [hv0] at h0
              obtain ⟨c, hc, _⟩ := cell_im h0
              exact ⟨c, hc⟩
            have inBlk : ∀ i j (x : Value), W.cell? ⟨a.block, a.off + (i * P.cellsOf e + j), none⟩ = some x → blk[a.off + (i * P.cellsOf e + j)]? = some x := by
              intro i j x hx
              obtain ⟨c, hc, hx'⟩ := cell_im hx
              rw [hblk] at hc; cases hc
              exact hx'
            have key := VR.vec (E := E0 W tk) (es := elemsD (elems.map (·.1))) (b := a.block) (o := a.off) (esz := P.cellsOf e) (cap := cap) (cells := blk) hblk (by rw [hlen]; exact hlc)
              (fun i v hv => by
                obtain ⟨d, hd, rfl⟩ := get_elemsD _ _ _ hv
                have hi : i < len := by
                  rcases Nat.lt_or_ge i len with h | h
                  · exact h
                  · rw [List.getElem?_eq_none (by simp; omega)] at hd; cases hd
                obtain ⟨cs', y, hy, hl, ht', hc⟩ := cellAt i hi
                rw [List.getElem?_map, hy] at hd
                simp only [Option.map_some, Option.some.injEq] at hd
                subst hd
                have ih := open_ok (tk := tk) hp fuel e cs' y he ht'
                refine ⟨by simpa [V.cells] using ih.1, ?_⟩
                obtain ⟨v0, hv0⟩ : ∃ v0, cs'[P.cellsOf e - 1]? = some v0 := ⟨cs'[P.cellsOf e - 1]'(by omega), by simp⟩
                have h0 := hc (P.cellsOf e - 1) (by omega)
                rw [hv0] at h0
                have := inBlk _ _ _ h0
                have := (Array.getElem?_eq_some_iff.1 this).1
                omega)
              (fun i j v c x hv hc hx => by
                obtain ⟨d, hd, rfl⟩ := get_elemsD _ _ _ hv
                have hi : i < len := by
                  rcases Nat.lt_or_ge i len with h | h
                  · exact h
                  · rw [List.getElem?_eq_none (by simp; omega)] at hd; cases hd
                obtain ⟨cs', y, hy, hl, ht', hcell⟩ := cellAt i hi
                rw [List.getElem?_map, hy] at hd
                simp only [Option.map_some, Option.some.injEq] at hd
                subst hd
                have ih := open_ok (tk := tk) hp fuel e cs' y he ht'
                simp only [V.cells] at hc
                have hj : j < P.cellsOf e := by
                  rcases Nat.lt_or_ge j (P.cellsOf e) with h | h
                  · exact h
                  · rw [List.getElem?_eq_none (by rw [ih.1]; exact h)] at hc; cases hc
                obtain ⟨u, hu'⟩ : ∃ u, cs'[j]? = some u := ⟨cs'[j]'(by omega), by simp [hl, hj]⟩
                have h0 := hcell j hj
                rw [hu'] at h0
                have h1 := inBlk _ _ _ h0
                rw [← Nat.add_assoc] at h1
                rw [h1] at hx; cases hx
                exact ih.2.2 j c _ hc hu')
            rw [hlen] at key
            have ea : a = ⟨a.block, a.off, none⟩ := by cases a; simp_all
            rw [ea]
            exact key
    · rename_i fs hu
      simp only [Bool.and_eq_true, List.all_eq_true, List.contains_iff_mem] at hpt
      obtain ⟨hts, hcon⟩ := hpt
      obtain ⟨xs, n, hn, rfl, hl, hxl, hget⟩ := DataW.trod_struct hu h
      cases hn
      have key := cat_cells (E := E0 W tk) (cs := cs) (fs.toList.map fun f => (f.offset, P.cellsOf f.type)) (xs.map (·.1)) 0 (by rw [hl]; exact hcon) (by simp [hxl]) (fun i s d hs hd => by
        simp only [List.getElem?_map, Option.map_eq_some_iff] at hs hd
        obtain ⟨f, hf, rfl⟩ := hs
        obtain ⟨y, hy, rfl⟩ := hd
        have hf' : fs[i]? = some f := by simpa using hf
        have ht' := hget i f hf'
        rw [hy] at ht'
        have ih := open_ok (tk := tk) hp fuel f.type _ y (hts f (List.mem_of_getElem? hf)) ht'
        exact ⟨ih.1, ih.2.2⟩)
      refine ⟨by have := key.1; simp only [Nat.add_zero] at this; simp only [cellsD]; omega, hl, fun i c v hc hv => key.2 i c v (by simpa [cellsD] using hc) (by simpa using hv)⟩
    · rename_i m e hu
      simp only [Bool.and_eq_true, List.contains_iff_mem] at hpt
      obtain ⟨he, hcon⟩ := hpt
      obtain ⟨xs, n, hn, rfl, hl, hxl, hget⟩ := trod_array_get hu h
      cases hn
      have key := cat_cells (E := E0 W tk) (cs := cs) ((List.range m).map fun i => (i * P.cellsOf e, P.cellsOf e)) (xs.map (·.1)) 0 (by rw [hl]; exact hcon) (by simp [hxl]) (fun i s d hs hd => by
        simp only [List.getElem?_map, Option.map_eq_some_iff] at hs hd
        obtain ⟨k, hk, rfl⟩ := hs
        obtain ⟨y, hy, rfl⟩ := hd
        obtain ⟨hi, rfl⟩ : i < m ∧ i = k := by
          obtain ⟨hi, hk'⟩ := List.getElem?_eq_some_iff.1 hk
          simp at hi hk'
          exact ⟨hi, hk'⟩
        have ht' := hget i hi
        rw [hy] at ht'
        have ih := open_ok (tk := tk) hp fuel e _ y he ht'
        exact ⟨ih.1, ih.2.2⟩)
      refine ⟨by have := key.1; simp only [Nat.add_zero] at this; simp only [cellsD]; omega, hl, fun i c v hc hv => key.2 i c v (by simpa [cellsD] using hc) (by simpa using hv)⟩
    · cases hpt

end Am

/-
  Arguments read again behind a call that leaves all memory as it was.
-/
namespace Am
open Go

variable {Hd : Type} {enc : TypeId × Value → Hd} {P : Program} {W W' : World}

theorem Still.sameAt (h : Still W W') {p : MemPlace} (hp : p.block < W.heap.size) : W.sameAt W' p := by
  cases p with
  | cell b off =>
    have hp : b < W.heap.size := hp
    show W'.cell? ⟨b, off, none⟩ = W.cell? ⟨b, off, none⟩
    unfold World.cell?
    rw [h.heap b hp]
  | map b => exact h.heap b hp

theorem trodAll_still (h : Still W W') {base : Nat} {sp : Nat → Bool} {held : Bool} : ∀ {ts : List TypeId} {vs : List Value} {ds : List (DataW Hd)} {ps : List MemPlace},
    DataW.TrodAll enc P W base sp held ts vs ds ps → DataW.TrodAll enc P W' base sp held ts vs ds ps
  | [], [], [], _, k => k
  | _ :: _, _ :: _, _ :: _, _, ⟨a, b, ⟨n, h1⟩, h2, e⟩ => ⟨a, b, ⟨n, DataW.trod_carry n _ _ _ h1 fun p hp => h.sameAt (DataW.trod_lt n _ _ _ h1 p hp)⟩, trodAll_still h h2, e⟩

/-- The arguments' reading again. -/
theorem again (hl : laidOutB P = true) (hm : mapsRowed P = true)
    (hz : ((List.range P.types.size).all fun t => match P.underlying t with | some (.slice e) => decide (0 < P.cellsOf e) | _ => true) = true)
    {ts : List TypeId} (hT : ∀ t ∈ ts, t < P.types.size) {vs : List Value} {ds : List (DataW Hd)} {ps : List MemPlace}
    (h : DataW.TrodAll enc P W 0 (fun _ => true) true ts vs ds ps) (hst : Still W W') {sp : Nat → Bool} (hs : ∀ p ∈ ps, sp p.block = true) :
    DataW.TrodAll enc P W' 0 sp true ts vs ds ps :=
  DataW.TrodAll.respare (kids_rows hl hm) (slices_full_of P hz) hT (trodAll_still hst h) hs

end Am

/-
  Signs of 64-bit words, and what an addition or a subtraction that overflows looks like.
-/
namespace Am
open Go (IntKind)

def i64 (a : Int) : Prop := -9223372036854775808 ≤ a ∧ a ≤ 9223372036854775807

end Am

/-
  Weakest conditions over the abstract machine: rules to step through a function at any data.
-/
namespace Am
open Go
set_option linter.unusedSimpArgs false
set_option linter.unusedVariables false

def CallLe (c c' : CallF) : Prop := ∀ f a h r, c f a h = some r → c' f a h = some r

section mono
variable {call call' : CallF}

theorem opc_mono (hc : CallLe call call') {k : AK} {ls vs : List V} {h : Heap} {r : V × Heap} (e : opc call k ls vs h = some r) : opc call' k ls vs h = some r := by
  cases k with
  | call f args =>
    simp only [opc, o_call] at e ⊢
    cases ha : evs ls vs args with
    | none => rw [ha] at e; cases e
    | some as => rw [ha] at e; exact hc _ _ _ _ e
  | callv f args =>
    simp only [opc, o_callv] at e ⊢
    split at e
    · exact hc _ _ _ _ e
    · cases e
  | _ => exact e

theorem opv_opc {k : AK} {ls vs : List V} {h : Heap} {r : V × Heap} (e : opv k ls vs h = some r) : opc call k ls vs h = some r := by
  cases k <;> first
    | exact e
    | cases e

theorem stepO_mono (hc : CallLe call call') {o : AOp} {ls vs : List V} {h : Heap} {r : V × Heap} (e : stepO call o ls vs h = some r) : stepO call' o ls vs h = some r := by
  simp only [stepO] at e ⊢
  cases hw : wantedV ls o.g with
  | none => rw [hw] at e; cases e
  | some b =>
    rw [hw] at e
    cases b with
    | false => exact e
    | true => exact opc_mono hc e

theorem runOps_mono (hc : CallLe call call') : ∀ {os : List AOp} {ls vs : List V} {h : Heap} {r : List V × Heap}, runOps call os ls vs h = some r → runOps call' os ls vs h = some r
  | [], _, _, _, _, e => e
  | o :: os, ls, vs, h, r, e => by
    simp only [runOps] at e ⊢
    cases hs : stepO call o ls vs h with
    | none => rw [hs] at e; cases e
    | some x =>
      rw [hs] at e
      rw [stepO_mono hc hs]
      exact runOps_mono hc e

theorem iter_mono {f g : List V → Heap → Out} (hf : ∀ vs h r, f vs h = some r → g vs h = some r) : ∀ {n m : Nat} {vs : List V} {h : Heap} {r : Ex × List V × Heap}, n ≤ m → iter f n vs h = some r → iter g m vs h = some r
  | 0, _, _, _, _, _, e => by cases e
  | n + 1, 0, _, _, _, hn, _ => absurd hn (by omega)
  | n + 1, m + 1, vs, h, r, hn, e => by
    simp only [iter] at e ⊢
    cases hs : f vs h with
    | none => rw [hs] at e; cases e
    | some x =>
      obtain ⟨ex, vs1, h1⟩ := x
      rw [hs] at e
      rw [hf _ _ _ hs]
      cases ex with
      | normal => exact iter_mono hf (by omega) e
      | exit i => exact e
      | ret => exact e

theorem exec_mono (hc : CallLe call call') {fuel fuel' : Nat} (hn : fuel ≤ fuel') : ∀ (c : AC) (vs : List V) (h : Heap) (r : Ex × List V × Heap), exec call fuel c vs h = some r → exec call' fuel' c vs h = some r
  | .skip, _, _, _, e => e
  | .reg ops outs, vs, h, r, e => by
    simp only [exec, x_reg] at e ⊢
    cases hs : runOps call ops [] vs h with
    | none => rw [hs] at e; cases e
    | some x => rw [hs] at e; rw [runOps_mono hc hs]; exact e
  | .reg2 ops s1 s2 outs, vs, h, r, e => by
    simp only [exec, x_reg2] at e ⊢
    cases hs : runOps call ops [] vs h with
    | none => rw [hs] at e; cases e
    | some x => rw [hs] at e; rw [runOps_mono hc hs]; exact e
  | .seq a b, vs, h, r, e => by
    simp only [exec, x_seq] at e ⊢
    cases hs : exec call fuel a vs h with
    | none => rw [hs] at e; cases e
    | some x =>
      obtain ⟨ex, vs1, h1⟩ := x
      rw [hs] at e
      rw [exec_mono hc hn a vs h _ hs]
      cases ex with
      | normal => exact exec_mono hc hn b vs1 h1 r e
      | exit i => exact e
      | ret => exact e
  | .cond c a b, vs, h, r, e => by
    simp only [exec, x_cond] at e ⊢
    split at e
    · exact exec_mono hc hn a vs h r e
    · exact exec_mono hc hn b vs h r e
    · cases e
  | .coin s a, vs, h, r, e => e
  | .block id b, vs, h, r, e => by
    simp only [exec, x_block] at e ⊢
    cases hs : exec call fuel b vs h with
    | none => rw [hs] at e; cases e
    | some x => rw [hs] at e; rw [exec_mono hc hn b vs h _ hs]; exact e
  | .loop b, vs, h, r, e => by
    simp only [exec] at e ⊢
    exact iter_mono (fun vs h r => exec_mono hc hn b vs h r) hn e
  | .exit id, _, _, _, e => e
  | .ret, _, _, _, e => e
  | .stuck, _, _, _, e => e

theorem body_mono (hc : CallLe call call') {fuel fuel' : Nat} (hn : fuel ≤ fuel') {a : AFunc} {args : List V} {h : Heap} {r : V × Heap} (e : body call fuel a args h = some r) : body call' fuel' a args h = some r := by
  simp only [body] at e ⊢
  cases hl : Nat.beq args.length a.nparams with
  | false => rw [hl] at e; cases e
  | true =>
    rw [hl] at e
    simp only at e ⊢
    cases hs : exec call fuel a.code (initV a.slots args) h with
    | none => rw [hs] at e; cases e
    | some x => rw [hs] at e; rw [exec_mono hc hn _ _ _ _ hs]; exact e
end mono

theorem run_mono {T : Nat → Option AFunc} {O : CallF} : ∀ {n m : Nat}, n ≤ m → CallLe (run T O n) (run T O m)
  | 0, _, _ => fun _ _ _ _ e => by cases e
  | n + 1, 0, hn => absurd hn (by omega)
  | n + 1, m + 1, hn => fun f a h r e => by
    simp only [run] at e ⊢
    cases ho : O f a h with
    | some x => rw [ho] at e; exact e
    | none =>
      rw [ho] at e
      simp only at e ⊢
      cases ht : T f with
      | none => rw [ht] at e; cases e
      | some af =>
        rw [ht] at e
        exact body_mono (run_mono (by omega)) (by omega) e

abbrev Pred2 := List V → Heap → Prop

def lkE : List (Nat × Pred2) → Nat → Option Pred2
  | [], _ => none
  | (j, P) :: l, i => match Nat.beq i j with
    | true => some P
    | false => lkE l i

/-- What is to hold at each way out. -/
def Post (N : Pred2) (E : List (Nat × Pred2)) (R : Pred2) : Ex → List V → Heap → Prop
  | .normal, vs, h => N vs h
  | .exit i, vs, h => ∃ P, lkE E i = some P ∧ P vs h
  | .ret, vs, h => R vs h

section wp
variable (T : Nat → Option AFunc) (O : CallF)

structure WPx (c : AC) (vs : List V) (h : Heap) (N : Pred2) (E : List (Nat × Pred2)) (R : Pred2) : Prop where
  out : ∃ n ex vs' h', exec (run T O n) n c vs h = some (ex, vs', h') ∧ Post N E R ex vs' h'

structure WPo (os : List AOp) (ls vs : List V) (h : Heap) (Q : List V → Heap → Prop) : Prop where
  out : ∃ n ls' h', runOps (run T O n) os ls vs h = some (ls', h') ∧ Q ls' h'

structure WPc (f : Nat) (args : List V) (h : Heap) (Q : V → Heap → Prop) : Prop where
  out : ∃ n v h', run T O n f args h = some (v, h') ∧ Q v h'
end wp

section rules
variable {T : Nat → Option AFunc} {O : CallF} {vs ls : List V} {h : Heap} {N N' R R' : Pred2} {E : List (Nat × Pred2)} {Q Q' : List V → Heap → Prop}

theorem WPx.mono {c : AC} (k : WPx T O c vs h N E R) (hN : ∀ vs h, N vs h → N' vs h) (hR : ∀ vs h, R vs h → R' vs h) : WPx T O c vs h N' E R' := by
  obtain ⟨n, ex, vs1, h1, e, p⟩ := k
  refine ⟨n, ex, vs1, h1, e, ?_⟩
  cases ex with
  | normal => exact hN _ _ p
  | exit i => exact p
  | ret => exact hR _ _ p

theorem WPc.mono {f : Nat} {args : List V} {Q Q' : V → Heap → Prop} (k : WPc T O f args h Q) (hQ : ∀ v h, Q v h → Q' v h) : WPc T O f args h Q' := by
  obtain ⟨n, v, h1, e, p⟩ := k
  exact ⟨n, v, h1, e, hQ _ _ p⟩

theorem w_skip (k : N vs h) : WPx T O .skip vs h N E R := ⟨0, .normal, vs, h, rfl, k⟩
theorem w_exit {i : Nat} {P : Pred2} (hl : lkE E i = some P) (k : P vs h) : WPx T O (.exit i) vs h N E R := ⟨0, .exit i, vs, h, rfl, P, hl, k⟩
theorem w_ret (k : R vs h) : WPx T O .ret vs h N E R := ⟨0, .ret, vs, h, rfl, k⟩

theorem w_seq {a b : AC} (k : WPx T O a vs h (fun vs h => WPx T O b vs h N E R) E R) : WPx T O (.seq a b) vs h N E R := by
  obtain ⟨n, ex, vs1, h1, e, p⟩ := k
  cases ex with
  | normal =>
    obtain ⟨m, ex2, vs2, h2, e2, p2⟩ := p
    refine ⟨max n m, ex2, vs2, h2, ?_, p2⟩
    have k1 := exec_mono (run_mono (T := T) (O := O) (Nat.le_max_left n m)) (Nat.le_max_left n m) _ _ _ _ e
    have k2 := exec_mono (run_mono (T := T) (O := O) (Nat.le_max_right n m)) (Nat.le_max_right n m) _ _ _ _ e2
    simp only [exec, x_seq, k1, k2]
  | exit i => exact ⟨n, .exit i, vs1, h1, by simp only [exec, x_seq, e], p⟩
  | ret => exact ⟨n, .ret, vs1, h1, by simp only [exec, x_seq, e], p⟩

theorem w_cond_t {c : Opd} {a b : AC} (hc : ev [] vs c = some (.bool true)) (k : WPx T O a vs h N E R) : WPx T O (.cond c a b) vs h N E R := by
  obtain ⟨n, ex, vs1, h1, e, p⟩ := k
  exact ⟨n, ex, vs1, h1, by simp only [exec, x_cond, hc]; exact e, p⟩
theorem w_cond_f {c : Opd} {a b : AC} (hc : ev [] vs c = some (.bool false)) (k : WPx T O b vs h N E R) : WPx T O (.cond c a b) vs h N E R := by
  obtain ⟨n, ex, vs1, h1, e, p⟩ := k
  exact ⟨n, ex, vs1, h1, by simp only [exec, x_cond, hc]; exact e, p⟩
theorem w_block {id : Nat} {b : AC} (k : WPx T O b vs h N ((id, N) :: E) R) : WPx T O (.block id b) vs h N E R := by
  obtain ⟨n, ex, vs1, h1, e, p⟩ := k
  cases ex with
  | normal => exact ⟨n, .normal, vs1, h1, by simp only [exec, x_block, e], p⟩
  | ret => exact ⟨n, .ret, vs1, h1, by simp only [exec, x_block, e], p⟩
  | exit i =>
    obtain ⟨P, hl, hp⟩ := p
    simp only [lkE] at hl
    cases hb : Nat.beq i id with
    | true =>
      rw [hb] at hl
      simp only [Option.some.injEq] at hl
      subst hl
      exact ⟨n, .normal, vs1, h1, by simp only [exec, x_block, e, hb], hp⟩
    | false =>
      rw [hb] at hl
      exact ⟨n, .exit i, vs1, h1, by simp only [exec, x_block, e, hb], P, hl, hp⟩

/-- A block, cut: what holds behind it. -/
theorem w_block_cut {id : Nat} {b : AC} (P : Pred2) (k : WPx T O b vs h P ((id, P) :: E) R) (k2 : ∀ vs h, P vs h → N vs h) : WPx T O (.block id b) vs h N E R :=
  (w_block (N := P) k).mono k2 fun _ _ x => x

theorem w_loop_step {b : AC} (k : WPx T O b vs h (fun vs h => WPx T O (.loop b) vs h N E R) E R) : WPx T O (.loop b) vs h N E R := by
  obtain ⟨n, ex, vs1, h1, e, p⟩ := k
  cases ex with
  | normal =>
    obtain ⟨m, ex2, vs2, h2, e2, p2⟩ := p
    refine ⟨max n m + 1, ex2, vs2, h2, ?_, p2⟩
    have k1 := exec_mono (run_mono (T := T) (O := O) (show n ≤ max n m + 1 by omega)) (show n ≤ max n m + 1 by omega) _ _ _ _ e
    simp only [exec] at e2 ⊢
    simp only [iter, k1]
    exact iter_mono (fun vs h r => exec_mono (run_mono (T := T) (O := O) (show m ≤ max n m + 1 by omega)) (show m ≤ max n m + 1 by omega) b vs h r) (by omega) e2
  | exit i =>
    refine ⟨n + 1, .exit i, vs1, h1, ?_, p⟩
    have k1 := exec_mono (run_mono (T := T) (O := O) (show n ≤ n + 1 by omega)) (show n ≤ n + 1 by omega) _ _ _ _ e
    simp only [exec, iter, k1]
  | ret =>
    refine ⟨n + 1, .ret, vs1, h1, ?_, p⟩
    have k1 := exec_mono (run_mono (T := T) (O := O) (show n ≤ n + 1 by omega)) (show n ≤ n + 1 by omega) _ _ _ _ e
    simp only [exec, iter, k1]

/-- A loop: what holds at each round's begin, with what falls. -/
theorem w_loop {b : AC} (I : Nat → Pred2) (hb : ∀ m vs h, I m vs h → WPx T O b vs h (fun vs h => ∃ m', m' < m ∧ I m' vs h) E R) : ∀ (m : Nat) (vs : List V) (h : Heap), I m vs h → WPx T O (.loop b) vs h N E R := by
  intro m
  induction m using Nat.strongRecOn with
  | _ m ih =>
    intro vs h hI
    exact w_loop_step ((hb m vs h hI).mono (fun vs h ⟨m', hm, hI'⟩ => ih m' hm vs h hI') fun _ _ x => x)

theorem w_reg {ops : List AOp} {outs : List (Nat × Nat)} (k : WPo T O ops [] vs h (fun ls h' => ∃ vs', outsV ls outs vs = some vs' ∧ N vs' h')) : WPx T O (.reg ops outs) vs h N E R := by
  obtain ⟨n, ls1, h1, e, vs1, e2, p⟩ := k
  exact ⟨n, .normal, vs1, h1, by simp only [exec, x_reg, e, e2], p⟩

theorem w_nil (k : Q ls h) : WPo T O [] ls vs h Q := ⟨0, ls, h, rfl, k⟩

theorem w_op {k : AK} {os : List AOp} {v : V} {h1 : Heap} (e : opv k ls vs h = some (v, h1)) (k1 : WPo T O os (v :: ls) vs h1 Q) : WPo T O (⟨none, k⟩ :: os) ls vs h Q := by
  obtain ⟨n, ls2, h2, e2, p⟩ := k1
  exact ⟨n, ls2, h2, by simp only [runOps, stepO, wantedV, opv_opc (call := run T O n) e]; exact e2, p⟩

theorem w_on {g : Nat × Bool} {k : AK} {os : List AOp} (hg : wantedV ls (some g) = some true) (k1 : WPo T O (⟨none, k⟩ :: os) ls vs h Q) : WPo T O (⟨some g, k⟩ :: os) ls vs h Q := by
  obtain ⟨n, ls2, h2, e2, p⟩ := k1
  exact ⟨n, ls2, h2, by simp only [runOps, stepO, hg]; simpa only [runOps, stepO, wantedV] using e2, p⟩

theorem w_off {g : Nat × Bool} {k : AK} {os : List AOp} (hg : wantedV ls (some g) = some false) (k1 : WPo T O os (.tuple [] :: ls) vs h Q) : WPo T O (⟨some g, k⟩ :: os) ls vs h Q := by
  obtain ⟨n, ls2, h2, e2, p⟩ := k1
  exact ⟨n, ls2, h2, by simp only [runOps, stepO, hg]; exact e2, p⟩

theorem w_call {f : Nat} {args : List Opd} {os : List AOp} {as : List V} (e : evs ls vs args = some as) (k1 : WPc T O f as h (fun v h1 => WPo T O os (v :: ls) vs h1 Q)) : WPo T O (⟨none, .call f args⟩ :: os) ls vs h Q := by
  obtain ⟨n, v, h1, e1, m, ls2, h2, e2, p⟩ := k1
  refine ⟨max n m, ls2, h2, ?_, p⟩
  have a1 := run_mono (T := T) (O := O) (Nat.le_max_left n m) _ _ _ _ e1
  have a2 := runOps_mono (run_mono (T := T) (O := O) (Nat.le_max_right n m)) e2
  simp only [runOps, stepO, wantedV, opc, o_call, e, a1, a2]

theorem w_callv {f : Opd} {g : Nat} {first caps : List V} {args : List Opd} {os : List AOp} {as : List V} (e0 : ev ls vs f = some (.fn g first caps)) (e : evs ls vs args = some as) (k1 : WPc T O g (first ++ as ++ caps) h (fun v h1 => WPo T O os (v :: ls) vs h1 Q)) : WPo T O (⟨none, .callv f args⟩ :: os) ls vs h Q := by
  obtain ⟨n, v, h1, e1, m, ls2, h2, e2, p⟩ := k1
  refine ⟨max n m, ls2, h2, ?_, p⟩
  have a1 := run_mono (T := T) (O := O) (Nat.le_max_left n m) _ _ _ _ e1
  have a2 := runOps_mono (run_mono (T := T) (O := O) (Nat.le_max_right n m)) e2
  simp only [runOps, stepO, wantedV, opc, o_callv, e0, e, a1, a2]

/-- What is to hold behind a function's code, of its result. -/
def Rt (rs : List ARes) (Q : V → Heap → Prop) : Pred2 := fun vs h => ∃ l, resV vs h rs = some l ∧ Q (packV l) h

theorem w_fn {f : Nat} {a : AFunc} {args : List V} {Q : V → Heap → Prop} (hO : O f args h = none) (hT : T f = some a) (hl : Nat.beq args.length a.nparams = true) (k : WPx T O a.code (initV a.slots args) h (Rt a.res Q) [] (Rt a.res Q)) : WPc T O f args h Q := by
  obtain ⟨n, ex, vs1, h1, e, p⟩ := k
  cases ex with
  | exit i => obtain ⟨P, hP, _⟩ := p; cases hP
  | normal =>
    obtain ⟨l, e2, q⟩ := p
    exact ⟨n + 1, packV l, h1, by simp only [run, hO, hT, body, hl, e, e2], q⟩
  | ret =>
    obtain ⟨l, e2, q⟩ := p
    exact ⟨n + 1, packV l, h1, by simp only [run, hO, hT, body, hl, e, e2], q⟩

theorem w_known {f : Nat} {args : List V} {Q : V → Heap → Prop} {v : V} {h1 : Heap} (e : O f args h = some (v, h1)) (q : Q v h1) : WPc T O f args h Q :=
  ⟨1, v, h1, by simp only [run, e], q⟩

/-! ### Comparisons: both ways -/

theorem o_bin_v {op : BinOp} {q : EqK} {x y : Opd} {a b r : V} (hx : ev ls vs x = some a) (hy : ev ls vs y = some b) (e : binV op q a b = some r) : opv (.bin op q x y) ls vs h = some (r, h) := by
  show o_bin op q x y ls vs h = _
  simp only [o_bin, hx, hy, binK_eq, e, keep]

theorem w_bool {k : AK} {os : List AOp} {t : Bool} {h1 : Heap} (e : opv k ls vs h = some (.bool t, h1)) (k1 : t = true → WPo T O os (.bool true :: ls) vs h1 Q) (k2 : t = false → WPo T O os (.bool false :: ls) vs h1 Q) : WPo T O (⟨none, k⟩ :: os) ls vs h Q := by
  cases t with
  | true => exact w_op e (k1 rfl)
  | false => exact w_op e (k2 rfl)

theorem w_lss {q : EqK} {x y : Opd} {os : List AOp} {k : IntKind} {a b : Int} (hx : ev ls vs x = some (.int k a)) (hy : ev ls vs y = some (.int k b)) (k1 : a < b → WPo T O os (.bool true :: ls) vs h Q) (k2 : b ≤ a → WPo T O os (.bool false :: ls) vs h Q) : WPo T O (⟨none, .bin .lss q x y⟩ :: os) ls vs h Q :=
  w_bool (o_bin_v hx hy (by simp only [binV, if_true]; rfl)) (fun e => k1 (of_decide_eq_true e)) (fun e => k2 (by have := of_decide_eq_false e; omega))
theorem w_leq {q : EqK} {x y : Opd} {os : List AOp} {k : IntKind} {a b : Int} (hx : ev ls vs x = some (.int k a)) (hy : ev ls vs y = some (.int k b)) (k1 : a ≤ b → WPo T O os (.bool true :: ls) vs h Q) (k2 : b < a → WPo T O os (.bool false :: ls) vs h Q) : WPo T O (⟨none, .bin .leq q x y⟩ :: os) ls vs h Q :=
  w_bool (o_bin_v hx hy (by simp only [binV, if_true]; rfl)) (fun e => k1 (of_decide_eq_true e)) (fun e => k2 (by have := of_decide_eq_false e; omega))
theorem w_gtr {q : EqK} {x y : Opd} {os : List AOp} {k : IntKind} {a b : Int} (hx : ev ls vs x = some (.int k a)) (hy : ev ls vs y = some (.int k b)) (k1 : b < a → WPo T O os (.bool true :: ls) vs h Q) (k2 : a ≤ b → WPo T O os (.bool false :: ls) vs h Q) : WPo T O (⟨none, .bin .gtr q x y⟩ :: os) ls vs h Q :=
  w_bool (o_bin_v hx hy (by simp only [binV, if_true]; rfl)) (fun e => k1 (by have := of_decide_eq_true e; omega)) (fun e => k2 (by have := of_decide_eq_false e; omega))
theorem w_geq {q : EqK} {x y : Opd} {os : List AOp} {k : IntKind} {a b : Int} (hx : ev ls vs x = some (.int k a)) (hy : ev ls vs y = some (.int k b)) (k1 : b ≤ a → WPo T O os (.bool true :: ls) vs h Q) (k2 : a < b → WPo T O os (.bool false :: ls) vs h Q) : WPo T O (⟨none, .bin .geq q x y⟩ :: os) ls vs h Q :=
  w_bool (o_bin_v hx hy (by simp only [binV, if_true]; rfl)) (fun e => k1 (by have := of_decide_eq_true e; omega)) (fun e => k2 (by have := of_decide_eq_false e; omega))
theorem w_eql {q : EqK} {x y : Opd} {os : List AOp} {k : IntKind} {a b : Int} (hx : ev ls vs x = some (.int k a)) (hy : ev ls vs y = some (.int k b)) (k1 : a = b → WPo T O os (.bool true :: ls) vs h Q) (k2 : a ≠ b → WPo T O os (.bool false :: ls) vs h Q) : WPo T O (⟨none, .bin .eql q x y⟩ :: os) ls vs h Q :=
  w_bool (o_bin_v hx hy (by simp only [binV, if_true]; rfl)) (fun e => k1 (by simpa using e)) (fun e => k2 (by simpa using e))
theorem w_neq {q : EqK} {x y : Opd} {os : List AOp} {k : IntKind} {a b : Int} (hx : ev ls vs x = some (.int k a)) (hy : ev ls vs y = some (.int k b)) (k1 : a ≠ b → WPo T O os (.bool true :: ls) vs h Q) (k2 : a = b → WPo T O os (.bool false :: ls) vs h Q) : WPo T O (⟨none, .bin .neq q x y⟩ :: os) ls vs h Q :=
  w_bool (o_bin_v hx hy (by simp only [binV, if_true]; rfl)) (fun e => k1 (by simpa using e)) (fun e => k2 (by simpa using e))

/-- A sum that fits. -/
theorem w_add {q : EqK} {x y : Opd} {os : List AOp} {k : IntKind} {a b : Int} (hx : ev ls vs x = some (.int k a)) (hy : ev ls vs y = some (.int k b)) (hw : k.wrap (a + b) = a + b) (k1 : WPo T O os (.int k (a + b) :: ls) vs h Q) : WPo T O (⟨none, .bin .add q x y⟩ :: os) ls vs h Q :=
  w_op (o_bin_v hx hy (by simp only [binV, if_true, intBin, hw])) k1
end rules

end Am

/-
  Slices and pointers at any data: what they hold, and the operations that look at them.
-/
namespace Am
open Go
set_option linter.unusedSimpArgs false
set_option linter.unusedVariables false

/-- Nothing elder has turned, but for the objects of a list. -/
def ExtX (S : List Nat) (h h' : Heap) : Prop := h.n ≤ h'.n ∧ ∀ j, j < h.n → j ∉ S → h'.get j = h.get j
abbrev Ext (h h' : Heap) : Prop := ExtX [] h h'

theorem ExtX.refl (S : List Nat) (h : Heap) : ExtX S h h := ⟨Nat.le_refl _, fun _ _ _ => rfl⟩
theorem ExtX.trans {S : List Nat} {a b c : Heap} (h : ExtX S a b) (k : ExtX S b c) : ExtX S a c :=
  ⟨Nat.le_trans h.1 k.1, fun j hj hs => by rw [k.2 j (Nat.lt_of_lt_of_le hj h.1) hs, h.2 j hj hs]⟩
theorem ExtX.alloc {S : List Nat} (h : Heap) (o : Obj) : ExtX S h (h.alloc o) := ⟨Nat.le_succ _, fun j hj _ => by rw [Heap.get_alloc, if_neg (by omega)]⟩
theorem ExtX.set {S : List Nat} (h : Heap) {id : Nat} (hs : id ∈ S) (o : Obj) : ExtX S h (h.set id o) := ⟨Nat.le_refl _, fun j _ hj => by rw [Heap.get_set, if_neg (fun e => by rw [e] at hj; exact hj hs)]⟩
theorem ExtX.mono {S S' : List Nat} {a b : Heap} (h : ExtX S a b) (hs : ∀ j ∈ S, j ∈ S') : ExtX S' a b := ⟨h.1, fun j hj hn => h.2 j hj (fun e => hn (hs j e))⟩
theorem ExtX.get {S : List Nat} {a b : Heap} (h : ExtX S a b) {j : Nat} {o : Option Obj} (hj : j < a.n) (hs : j ∉ S) (ho : a.get j = o) : b.get j = o := by rw [h.2 j hj hs, ho]
theorem ExtX.step {S S' : List Nat} {a b c : Heap} (h : ExtX S a b) (k : ExtX S' b c) (hs : ∀ j ∈ S', j ∈ S ∨ a.n ≤ j) : ExtX S a c :=
  ⟨Nat.le_trans h.1 k.1, fun j hj hn => by
    rw [k.2 j (Nat.lt_of_lt_of_le hj h.1) (fun e => by rcases hs j e with e | e; exact hn e; omega), h.2 j hj hn]⟩

/-- Its object's number is below. -/
def Vin (n : Nat) : V → Prop
  | .sl id _ _ _ _ _ => id < n
  | _ => True

/-- A slice's elements: the cells of each. -/
def RS (h : Heap) (esz : Nat) (v : V) (l : List (List V)) : Prop :=
  srcCells h esz v = some (l.length, l.flatten) ∧ isSl v = true ∧ Vin h.n v ∧ ∀ c ∈ l, c.length = esz

theorem RS.nils (h : Heap) (esz : Nat) : RS h esz .nils [] := ⟨rfl, rfl, trivial, by simp⟩

theorem flatAll_agg (esz : Nat) : ∀ (l : List (List V)), (∀ c ∈ l, c.length = esz ∧ allOne c = true) → flatAll esz (l.map .agg) = some l.flatten
  | [], _ => rfl
  | c :: l, h => by
    obtain ⟨h1, h2⟩ := h c (by simp)
    have ih := flatAll_agg esz l (fun c hc => h c (by simp [hc]))
    simp only [List.map_cons, flatAll, V.cells, h1, h2, ih, Bool.and_true]
    rw [show Nat.beq esz esz = true from nbeq.2 rfl]
    rfl

theorem RS.vec (h : Heap) {esz : Nat} {l : List (List V)} (hl : ∀ c ∈ l, c.length = esz ∧ allOne c = true) : RS h esz (.vec (l.map .agg)) l := by
  refine ⟨?_, rfl, trivial, fun c hc => (hl c hc).1⟩
  simp only [srcCells, flatAll_agg esz l hl, List.length_map]

theorem srcCells_keep {h h' : Heap} {esz : Nat} {v : V} (hk : ∀ id off len ver e f, v = .sl id off len ver e f → h'.get id = h.get id) : srcCells h' esz v = srcCells h esz v := by
  cases v <;> try rfl
  simp only [srcCells, hk _ _ _ _ _ _ rfl]

theorem RS.ext {S : List Nat} {h h' : Heap} {esz : Nat} {v : V} {l : List (List V)} (hE : ExtX S h h') (hr : RS h esz v l) (hs : ∀ id off len ver e f, v = .sl id off len ver e f → id ∉ S) : RS h' esz v l := by
  obtain ⟨h1, h2, h3, h4⟩ := hr
  refine ⟨?_, h2, ?_, h4⟩
  · rw [srcCells_keep (h := h) (fun id off len ver e f hv => ?_)]
    · exact h1
    · subst hv; exact hE.2 _ h3 (hs _ _ _ _ _ _ rfl)
  · cases v <;> try trivial
    exact Nat.lt_of_lt_of_le h3 hE.1

theorem RS.ext0 {h h' : Heap} {esz : Nat} {v : V} {l : List (List V)} (hE : Ext h h') (hr : RS h esz v l) : RS h' esz v l := hr.ext hE (by simp)

theorem flatten_slot {l : List (List V)} {esz : Nat} (hl : ∀ c ∈ l, c.length = esz) : ∀ (j : Nat) (hj : j < l.length), (l.flatten.drop (j * esz)).take esz = l[j] := by
  induction l with
  | nil => intro j hj; cases hj
  | cons a l ih =>
    intro j hj
    have ha := hl a (by simp)
    cases j with
    | zero => simp [← ha]
    | succ j =>
      have := ih (fun c hc => hl c (by simp [hc])) j (by simpa using hj)
      rw [List.flatten_cons, List.getElem_cons_succ, ← this, show (j + 1) * esz = a.length + j * esz by rw [ha, Nat.add_mul]; omega, List.drop_append, List.drop_of_length_le (by omega)]
      simp

theorem flatten_len {l : List (List V)} {esz : Nat} (hl : ∀ c ∈ l, c.length = esz) : l.flatten.length = l.length * esz := by
  induction l with
  | nil => simp
  | cons a l ih =>
    rw [List.flatten_cons, List.length_append, ih (fun c hc => hl c (by simp [hc])), hl a (by simp), List.length_cons, Nat.add_mul]; omega

theorem good_le {c : List V} {cur low ver e e' : Nat} (h : good c cur low ver e = true) (he : e' ≤ e) : good c cur low ver e' = true := by
  unfold good at h ⊢
  split at h
  · rw [nble] at h ⊢; omega
  · simp only [Bool.and_eq_true] at h ⊢
    rw [nblt, nble, nble] at h ⊢
    omega

theorem good_len {c : List V} {cur low ver e : Nat} (h : good c cur low ver e = true) : e ≤ c.length := by
  unfold good at h
  split at h
  · rw [nble] at h; omega
  · simp only [Bool.and_eq_true] at h
    rw [nblt, nble, nble] at h
    omega

/-- Cells that a pointer leads to. -/
def At (h : Heap) (p : V) (c : List V) : Prop :=
  (∃ v o, p = .vptr v o ∧ o ≤ v.cells.length ∧ v.cells.drop o = c) ∨
  ∃ id o ver hi cs cur low, p = .ptr id o ver hi ∧ h.get id = some (.cells cs cur low) ∧ good cs cur low ver (o + c.length) = true ∧ o + c.length ≤ hi ∧ (cs.drop o).take c.length = c

def padd : V → Nat → V
  | .ptr id o ver hi, d => .ptr id (o + d) ver hi
  | .vptr v o, d => .vptr v (o + d)
  | v, _ => v

theorem At.fadr {h : Heap} {p : V} {c : List V} (k : At h p c) {d : Nat} (hd : d ≤ c.length) : At h (padd p d) (c.drop d) := by
  rcases k with ⟨v, o, rfl, h1, h2⟩ | ⟨id, o, ver, hi, cs, cur, low, rfl, h1, h2, h3, h4⟩
  · refine .inl ⟨v, o + d, rfl, ?_, ?_⟩
    · rw [← h2] at hd; simp at hd; omega
    · rw [← h2, List.drop_drop]
  · refine .inr ⟨id, o + d, ver, hi, cs, cur, low, rfl, h1, ?_, ?_, ?_⟩
    · rw [List.length_drop, show o + d + (c.length - d) = o + c.length by omega]; exact h2
    · rw [List.length_drop]; omega
    · rw [List.length_drop, ← List.drop_drop, ← List.drop_take, h4]

section rules
variable {T : Nat → Option AFunc} {O : CallF} {vs ls : List V} {h : Heap} {Q : List V → Heap → Prop} {os : List AOp}

theorem At.one {p x : V} {c : List V} (k : At h p (x :: c)) : rd h false 1 p = some x := by
  rcases k with ⟨v, o, rfl, h1, h2⟩ | ⟨id, o, ver, hi, cs, cur, low, rfl, h1, h2, h3, h4⟩
  · simp only [rd, ldC, nth_eq]
    have : (v.cells.drop o)[0]? = some x := by rw [h2]; rfl
    simpa using this
  · simp only [List.length_cons] at h2 h3 h4
    simp only [rd, h1, ldC, nth_eq]
    have h5 : Nat.ble (o + 1) hi = true := by rw [nble]; omega
    rw [h5, good_le h2 (e' := o + 1) (by omega)]
    simp only [Bool.and_self]
    have : ((cs.drop o).take (c.length + 1))[0]? = some x := by rw [h4]; rfl
    simpa using this

theorem At.agg {p : V} {c : List V} (k : At h p c) {n : Nat} (hn : n ≤ c.length) : rd h true n p = some (.agg (c.take n)) := by
  rcases k with ⟨v, o, rfl, h1, h2⟩ | ⟨id, o, ver, hi, cs, cur, low, rfl, h1, h2, h3, h4⟩
  · have : Nat.ble (o + n) v.cells.length = true := by rw [nble]; rw [← h2] at hn; simp at hn; omega
    simp only [rd, ldC, this, h2]
  · simp only [rd, h1, ldC]
    have h5 : Nat.ble (o + n) hi = true := by rw [nble]; omega
    have h6 := good_len h2
    have h7 : Nat.ble (o + n) cs.length = true := by rw [nble]; omega
    rw [h5, good_le h2 (e' := o + n) (by omega)]
    simp only [Bool.and_self, h7]
    rw [← h4, List.take_take, Nat.min_eq_left hn]

theorem w_fadr {d : Nat} {x : Opd} {p : V} {c : List V} (hx : ev ls vs x = some p) (k : At h p c) (hd : Nat.ble d c.length = true) (k1 : At h (padd p d) (c.drop d) → WPo T O os (padd p d :: ls) vs h Q) : WPo T O (⟨none, .fadr d x⟩ :: os) ls vs h Q := by
  have hd := nble.1 hd
  refine w_op ?_ (k1 (k.fadr hd))
  show o_fadr d x ls vs h = _
  simp only [o_fadr, hx]
  rcases k with ⟨v, o, rfl, _⟩ | ⟨id, o, ver, hi, cs, cur, low, rfl, _⟩ <;> rfl

theorem w_load1 {n : Nat} {a : Opd} {p x : V} {c : List V} (ha : ev ls vs a = some p) (k : At h p (x :: c)) (hn : n = 1) (k1 : WPo T O os (x :: ls) vs h Q) : WPo T O (⟨none, .load false n a⟩ :: os) ls vs h Q := by
  subst hn
  refine w_op ?_ k1
  show o_load false 1 a ls vs h = _
  simp only [o_load, ha, k.one, keep]

theorem w_loadA {n : Nat} {a : Opd} {p : V} {c : List V} (ha : ev ls vs a = some p) (k : At h p c) (hn : Nat.ble n c.length = true) (k1 : WPo T O os (.agg (c.take n) :: ls) vs h Q) : WPo T O (⟨none, .load true n a⟩ :: os) ls vs h Q := by
  have hn := nble.1 hn
  refine w_op ?_ k1
  show o_load true n a ls vs h = _
  simp only [o_load, ha, k.agg hn, keep]

theorem w_len {x : Opd} {v : V} {esz : Nat} {l : List (List V)} (hx : ev ls vs x = some v) (hr : RS h esz v l) (k1 : WPo T O os (.int .i64 (Int.ofNat l.length) :: ls) vs h Q) : WPo T O (⟨none, .len .slice x⟩ :: os) ls vs h Q := by
  refine w_op ?_ k1
  show o_len .slice x ls vs h = _
  obtain ⟨h1, h2, h3, h4⟩ := hr
  simp only [o_len, hx]
  cases v with
  | nils =>
    simp only [srcCells, Option.some.injEq, Prod.mk.injEq] at h1
    rw [← h1.1]; rfl
  | vec es =>
    simp only [srcCells] at h1
    split at h1
    · simp only [Option.some.injEq, Prod.mk.injEq] at h1
      simp only [lenV, keep, h1.1]
    · cases h1
  | sl id off len ver e full =>
    simp only [srcCells] at h1
    split at h1
    · split at h1
      · simp only [Option.some.injEq, Prod.mk.injEq] at h1
        simp only [lenV, keep, h1.1]
      · cases h1
    · cases h1
  | _ => cases h2

theorem flatAll_get {esz : Nat} : ∀ {es : List V} {cs : List V}, flatAll esz es = some cs → ∀ (j : Nat) (hj : j < es.length), (es[j]).cells.length = esz ∧ (cs.drop (j * esz)).take esz = (es[j]).cells
  | [], _, _, j, hj => by cases hj
  | e :: es, cs, h, j, hj => by
    simp only [flatAll] at h
    split at h
    · rename_i hb
      simp only [Bool.and_eq_true, nbeq] at hb
      split at h
      · rename_i r hr
        simp only [Option.some.injEq] at h
        subst h
        cases j with
        | zero => simp [hb.1]
        | succ j =>
          have := flatAll_get hr j (by simpa using hj)
          simp only [List.getElem_cons_succ]
          refine ⟨this.1, ?_⟩
          rw [← this.2, show (j + 1) * esz = e.cells.length + j * esz by rw [hb.1, Nat.add_mul]; omega, List.drop_append, List.drop_of_length_le (by omega)]
          simp
      · cases h
    · cases h

/-- Where a slice's element lies. -/
def slotP (v : V) (j : Nat) : V :=
  match v with
  | .vec es => .vptr (es.getD j .any) 0
  | .sl id off len ver e _ => .ptr id (off + j * e) ver (off + len * e)
  | _ => .nilp

theorem slot_at {esz : Nat} {v : V} {l : List (List V)} {j : Nat} (hr : RS h esz v l) (hj : j < l.length) : At h (slotP v j) l[j] := by
  obtain ⟨h1, h2, h3, h4⟩ := hr
  have hslot := flatten_slot h4 j hj
  have hlj : l[j].length = esz := h4 _ (List.getElem_mem hj)
  cases v with
  | nils =>
    simp only [srcCells, Option.some.injEq, Prod.mk.injEq] at h1
    omega
  | vec es =>
    simp only [srcCells] at h1
    split at h1
    · rename_i cs hcs
      simp only [Option.some.injEq, Prod.mk.injEq] at h1
      obtain ⟨e1, rfl⟩ := h1
      have hje : j < es.length := by omega
      obtain ⟨g1, g2⟩ := flatAll_get hcs j hje
      refine .inl ⟨es[j], 0, by simp [slotP, List.getD, hje], Nat.zero_le _, ?_⟩
      rw [List.drop_zero, ← g2, hslot]
    · cases h1
  | sl id off len ver e full =>
    simp only [srcCells] at h1
    split at h1
    · rename_i c cur low hg
      split at h1
      · rename_i hgd
        simp only [Bool.and_eq_true, nbeq] at hgd
        obtain ⟨hgd, rfl⟩ := hgd
        simp only [Option.some.injEq, Prod.mk.injEq] at h1
        obtain ⟨e1, e2⟩ := h1
        have hm : j * e + e ≤ len * e := by
          have := Nat.mul_le_mul_right e (show j + 1 ≤ len by omega)
          rw [Nat.add_mul] at this; omega
        refine .inr ⟨id, off + j * e, ver, off + len * e, c, cur, low, rfl, hg, ?_, ?_, ?_⟩
        · rw [hlj]; exact good_le hgd (by omega)
        · rw [hlj]; omega
        · rw [hlj]
          rw [← e2, List.drop_take, List.take_take, List.drop_drop, Nat.min_eq_left (by omega)] at hslot
          exact hslot
      · cases h1
    · cases h1
  | _ => cases h2

/-- As 'w_iadr', with where it lies told. -/
theorem w_iadrS {esz : Nat} {x i : Opd} {v : V} {l : List (List V)} {k : IntKind} {j : Nat} (hx : ev ls vs x = some v) (hi : ev ls vs i = some (.int k (Int.ofNat j))) (hr : RS h esz v l) (hj : j < l.length)
    (k1 : WPo T O os (slotP v j :: ls) vs h Q) : WPo T O (⟨none, .iadr esz x i⟩ :: os) ls vs h Q := by
  obtain ⟨h1, h2, h3, h4⟩ := hr
  cases v with
  | nils =>
    simp only [srcCells, Option.some.injEq, Prod.mk.injEq] at h1
    omega
  | vec es =>
    simp only [srcCells] at h1
    split at h1
    · rename_i cs hcs
      simp only [Option.some.injEq, Prod.mk.injEq] at h1
      obtain ⟨e1, rfl⟩ := h1
      have hje : j < es.length := by omega
      obtain ⟨g1, g2⟩ := flatAll_get hcs j hje
      refine w_op ?_ k1
      show o_iadr esz x i ls vs h = _
      have hn : nth es j = some es[j] := by rw [nth_eq, List.getElem?_eq_getElem hje]
      simp only [o_iadr, hx, hi, idxNat, natOf, nblt.2 hje, hn, nbeq.2 g1, slotP, List.getD, List.getElem?_eq_getElem hje, Option.getD_some]
    · cases h1
  | sl id off len ver e full =>
    simp only [srcCells] at h1
    split at h1
    · split at h1
      · rename_i hgd
        simp only [Bool.and_eq_true, nbeq] at hgd
        obtain ⟨hgd, rfl⟩ := hgd
        simp only [Option.some.injEq, Prod.mk.injEq] at h1
        obtain ⟨e1, e2⟩ := h1
        refine w_op ?_ k1
        show o_iadr e x i ls vs h = _
        simp only [o_iadr, hx, hi, idxNat, natOf, nblt.2 (show j < len by omega), show Nat.beq e e = true from nbeq.2 rfl, slotP]
      · cases h1
    · cases h1
  | _ => cases h2

end rules

end Am

/-
  Slices that a function owns, and objects of its own: literals, appends, boxes, stores.
-/
namespace Am
open Go
set_option linter.unusedSimpArgs false
set_option linter.unusedVariables false

def slIds : V → List Nat
  | .sl id _ _ _ _ _ => [id]
  | _ => []

/-- A slice behind which may be appended. -/
def Ow (h : Heap) (esz : Nat) (v : V) (l : List (List V)) : Prop :=
  RS h esz v l ∧ (v = .nils ∨ ∃ id off len ver full cs low, v = .sl id off len ver esz full ∧ h.get id = some (.cells cs ver low))

theorem Ow.rs {h : Heap} {esz : Nat} {v : V} {l : List (List V)} (k : Ow h esz v l) : RS h esz v l := k.1
theorem Ow.nils (h : Heap) (esz : Nat) : Ow h esz .nils [] := ⟨RS.nils h esz, .inl rfl⟩

theorem Ow.ext {S : List Nat} {h h' : Heap} {esz : Nat} {v : V} {l : List (List V)} (hE : ExtX S h h') (hr : Ow h esz v l) (hs : ∀ j ∈ slIds v, j ∉ S) : Ow h' esz v l := by
  obtain ⟨h1, h2⟩ := hr
  refine ⟨h1.ext hE (fun id off len ver e f hv => hs id (by rw [hv]; simp [slIds])), ?_⟩
  rcases h2 with h2 | ⟨id, off, len, ver, full, cs, low, rfl, hg⟩
  · exact .inl h2
  · exact .inr ⟨id, off, len, ver, full, cs, low, rfl, hE.get h1.2.2.1 (hs id (by simp [slIds])) hg⟩

theorem Ow.ext0 {h h' : Heap} {esz : Nat} {v : V} {l : List (List V)} (hE : Ext h h') (hr : Ow h esz v l) : Ow h' esz v l := hr.ext hE (by simp)

theorem RS.lt {h : Heap} {esz : Nat} {v : V} {l : List (List V)} (k : RS h esz v l) : ∀ j ∈ slIds v, j < h.n := by
  intro j hj
  cases v <;> simp [slIds] at hj
  subst hj
  exact k.2.2.1

theorem good_refl {c : List V} {cur low e : Nat} (he : e ≤ c.length) : good c cur low cur e = true := by
  unfold good
  rw [show Nat.beq cur cur = true from nbeq.2 rfl]
  exact nble.2 he

/-- A new object's slice. -/
theorem Ow.new {h : Heap} {esz : Nat} {l : List (List V)} (hl : ∀ c ∈ l, c.length = esz) (f : Bool) : Ow (h.alloc (.cells l.flatten 0 big)) esz (.sl h.n 0 l.length 0 esz f) l := by
  have hg : (h.alloc (.cells l.flatten 0 big)).get h.n = some (.cells l.flatten 0 big) := by rw [Heap.get_alloc, if_pos rfl]
  have hlen := flatten_len hl
  refine ⟨⟨?_, rfl, ?_, hl⟩, ?_⟩
  · simp only [srcCells, hg]
    rw [good_refl (by omega), show Nat.beq esz esz = true from nbeq.2 rfl]
    simp only [List.drop_zero, Bool.and_self, Option.some.injEq, Prod.mk.injEq, true_and]
    rw [List.take_of_length_le (by omega)]
  · show h.n < h.n + 1
    omega
  · exact .inr ⟨_, _, _, _, _, _, _, rfl, hg⟩

theorem roomy_iff {n : Nat} : roomy n = true ↔ n ≤ 4294967296 := by unfold roomy; exact nble

theorem appV_ok {h : Heap} {esz : Nat} {v : V} {l l2 : List (List V)} (ho : Ow h esz v l) (h2 : ∀ c ∈ l2, c.length = esz) (hroom : l.length + l2.length ≤ 4294967296) :
    ∃ v' h', appV h esz v l2.length l2.flatten = some (v', h') ∧ Ow h' esz v' (l ++ l2) ∧ ExtX (slIds v) h h' ∧ (∀ j ∈ slIds v', j ∈ slIds v ∨ h.n ≤ j) := by
  cases l2 with
  | nil =>
    refine ⟨v, h, ?_, by simpa using ho, ExtX.refl _ _, fun j hj => .inl hj⟩
    rcases ho.2 with rfl | ⟨id, off, len, ver, full, cs, low, rfl, hg⟩ <;> rfl
  | cons a r =>
    have hlen2 := flatten_len h2
    have hlen1 := flatten_len ho.1.2.2.2
    have hall : ∀ c ∈ l ++ a :: r, c.length = esz := by
      intro c hc
      rcases List.mem_append.1 hc with hc | hc
      · exact ho.1.2.2.2 c hc
      · exact h2 c hc
    rcases ho.2 with rfl | ⟨id, off, len, ver, full, cs, low, rfl, hg⟩
    · have hl0 : l = [] := by
        have := ho.1.1
        simp only [srcCells, Option.some.injEq, Prod.mk.injEq] at this
        exact List.eq_nil_of_length_eq_zero this.1.symm
      subst hl0
      refine ⟨.sl h.n 0 (a :: r).length 0 esz false, h.alloc (.cells (a :: r).flatten 0 big), ?_, ?_, ?_, ?_⟩
      · simp only [appV, List.length_cons]
        rw [roomy_iff.2 (by simp at hroom; omega)]
      · exact Ow.new h2 false
      · exact ExtX.alloc _ _
      · intro j hj; simp [slIds] at hj; exact .inr (by omega)
    · cases full with
      | true =>
        obtain ⟨e1, _, e3, _⟩ := ho.1
        simp only [srcCells, hg] at e1
        split at e1
        · rename_i hgd
          simp only [Bool.and_eq_true, nbeq] at hgd
          simp only [Option.some.injEq, Prod.mk.injEq] at e1
          obtain ⟨rfl, e1⟩ := e1
          refine ⟨.sl h.n 0 (l ++ a :: r).length 0 esz false, h.alloc (.cells (l ++ a :: r).flatten 0 big), ?_, ?_, ?_, ?_⟩
          · simp only [appV, List.length_cons, hg, hgd.1, Bool.and_true]
            rw [roomy_iff.2 (by simp at hroom; omega), show Nat.beq esz esz = true from nbeq.2 rfl]
            simp only [Bool.and_self, Bool.true_and, e1]
            simp
          · exact Ow.new hall false
          · exact ExtX.alloc _ _
          · intro j hj; simp [slIds] at hj; exact .inr (by omega)
        · cases e1
      | false =>
        obtain ⟨e1, _, e3, _⟩ := ho.1
        simp only [srcCells, hg] at e1
        split at e1
        · rename_i hgd
          simp only [Bool.and_eq_true, nbeq] at hgd
          simp only [Option.some.injEq, Prod.mk.injEq] at e1
          obtain ⟨rfl, e1⟩ := e1
          have hgl := good_len hgd.1
          have hv : Nat.beq ver ver = true := nbeq.2 rfl
          have he : Nat.beq esz esz = true := nbeq.2 rfl
          have hidn : id < h.n := e3
          by_cases hend : off + l.length * esz = cs.length
          · refine ⟨.sl id off (l.length + (a :: r).length) (ver + 1) esz false, h.set id (.cells (cs ++ (a :: r).flatten) (ver + 1) low), ?_, ?_, ?_, ?_⟩
            · simp only [appV, List.length_cons, hg, hgd.1, he, hv, nbeq.2 hend, Bool.and_self, Bool.and_true]
              rw [roomy_iff.2 (by simp at hroom; omega)]
              rfl
            · have hg' : (h.set id (.cells (cs ++ (a :: r).flatten) (ver + 1) low)).get id = some (.cells (cs ++ (a :: r).flatten) (ver + 1) low) := by rw [Heap.get_set, if_pos rfl]
              refine ⟨⟨?_, rfl, hidn, hall⟩, .inr ⟨_, _, _, _, _, _, _, rfl, hg'⟩⟩
              simp only [srcCells, hg', he]
              rw [good_refl (by rw [List.length_append, hlen2, Nat.add_mul]; omega)]
              simp only [Bool.and_self, Option.some.injEq, Prod.mk.injEq, List.length_append, true_and]
              rw [List.flatten_append, ← e1, List.drop_append_of_le_length (by omega), List.take_append, List.length_drop, Nat.add_mul]
              have hx : l.length * esz + (a :: r).length * esz - (cs.length - off) = (a :: r).length * esz := by omega
              rw [hx]
              congr 1
              · rw [List.take_of_length_le (by simp; omega), List.take_of_length_le (by simp; omega)]
              · rw [List.take_of_length_le (by rw [hlen2]; omega)]
            · exact ExtX.set _ (by simp [slIds]) _
            · intro j hj; simp [slIds] at hj; exact .inl (by simp [slIds, hj])
          · have hend' : Nat.beq (off + l.length * esz) cs.length = false := by
              cases hb : Nat.beq (off + l.length * esz) cs.length with
              | false => rfl
              | true => exact absurd (nbeq.1 hb) hend
            refine ⟨.sl id off (l.length + (a :: r).length) (ver + 1) esz false, h.set id (.cells (cs.take (off + l.length * esz) ++ (a :: r).flatten) (ver + 1) (minN low (off + l.length * esz))), ?_, ?_, ?_, ?_⟩
            · simp only [appV, List.length_cons, hg, hgd.1, he, hv, hend', Bool.and_self, Bool.and_true]
              rw [roomy_iff.2 (by simp at hroom; omega)]
              rfl
            · have hg' : (h.set id (.cells (cs.take (off + l.length * esz) ++ (a :: r).flatten) (ver + 1) (minN low (off + l.length * esz)))).get id = some (.cells (cs.take (off + l.length * esz) ++ (a :: r).flatten) (ver + 1) (minN low (off + l.length * esz))) := by rw [Heap.get_set, if_pos rfl]
              refine ⟨⟨?_, rfl, hidn, hall⟩, .inr ⟨_, _, _, _, _, _, _, rfl, hg'⟩⟩
              simp only [srcCells, hg', he]
              have htl : (cs.take (off + l.length * esz)).length = off + l.length * esz := by simp; omega
              rw [good_refl (by rw [List.length_append, htl, hlen2, Nat.add_mul]; omega)]
              simp only [Bool.and_self, Option.some.injEq, Prod.mk.injEq, List.length_append, true_and]
              rw [List.flatten_append, ← e1, List.drop_append_of_le_length (by rw [htl]; omega), List.take_append, List.length_drop, htl, Nat.add_mul]
              have hx : l.length * esz + (a :: r).length * esz - (off + l.length * esz - off) = (a :: r).length * esz := by omega
              rw [hx]
              congr 1
              · rw [List.take_of_length_le (by simp; omega), List.drop_take]
                congr 1; omega
              · rw [List.take_of_length_le (by rw [hlen2]; omega)]
            · exact ExtX.set _ (by simp [slIds]) _
            · intro j hj; simp [slIds] at hj; exact .inl (by simp [slIds, hj])
        · cases e1

/-- From a slice to one that came of it: elder things stay, but for its own object. -/
def Fr (h0 : Heap) (v0 : V) (h : Heap) (v : V) : Prop := ExtX (slIds v0) h0 h ∧ ∀ j ∈ slIds v, j ∈ slIds v0 ∨ h0.n ≤ j

theorem Fr.refl (h : Heap) (v : V) : Fr h v h v := ⟨ExtX.refl _ _, fun _ h => .inl h⟩
theorem Fr.trans {a b c : Heap} {u v w : V} (h : Fr a u b v) (k : Fr b v c w) : Fr a u c w := by
  refine ⟨⟨Nat.le_trans h.1.1 k.1.1, fun j hj hn => ?_⟩, fun j hj => ?_⟩
  · rw [k.1.2 j (Nat.lt_of_lt_of_le hj h.1.1) (fun e => ?_), h.1.2 j hj hn]
    rcases h.2 j e with e | e
    · exact hn e
    · omega
  · rcases k.2 j hj with e | e
    · exact h.2 j e
    · have := h.1.1; exact .inr (by omega)
theorem Fr.of_ext {h h' : Heap} (v : V) (hE : Ext h h') : Fr h v h' v := ⟨hE.mono (by simp), fun _ h => .inl h⟩
theorem Fr.ext0 {h h' : Heap} {v : V} (k : Fr h .nils h' v) : Ext h h' := k.1

section rules
variable {T : Nat → Option AFunc} {O : CallF} {vs ls : List V} {h : Heap} {Q : List V → Heap → Prop} {os : List AOp}

theorem w_app {esz : Nat} {s x : Opd} {v xv : V} {l l2 : List (List V)} (hs : ev ls vs s = some v) (hx : ev ls vs x = some xv) (ho : Ow h esz v l) (hr : RS h esz xv l2) (hroom : l.length + l2.length ≤ 4294967296)
    (k1 : ∀ v' h', Ow h' esz v' (l ++ l2) → Fr h v h' v' → WPo T O os (v' :: ls) vs h' Q) : WPo T O (⟨none, .app esz s x⟩ :: os) ls vs h Q := by
  obtain ⟨v', h', a1, a2, a3, a4⟩ := appV_ok ho hr.2.2.2 hroom
  refine w_op ?_ (k1 v' h' a2 ⟨a3, a4⟩)
  show o_app esz s x ls vs h = _
  simp only [o_app, hs, hx, hr.1, a1]

theorem w_bslice {n esz : Nat} {zero : List V} {parts : List (Nat × Nat × Opd)} {ps : List (Nat × Nat × V)} {cs : List V} (l : List (List V)) (hp : evp ls vs parts = some ps) (hf : fillP (rep n zero) ps = some cs) (hc : cs = l.flatten) (hn : l.length = n) (hl : ∀ c ∈ l, c.length = esz)
    (k1 : ∀ v' h', Ow h' esz v' l → Fr h .nils h' v' → WPo T O os (v' :: ls) vs h' Q) : WPo T O (⟨none, .bslice n esz zero parts⟩ :: os) ls vs h Q := by
  subst hc hn
  refine w_op (v := .sl h.n 0 l.length 0 esz true) (h1 := h.alloc (.cells l.flatten 0 big)) ?_ (k1 _ _ (Ow.new hl true) ⟨ExtX.alloc _ _, fun j hj => by simp [slIds] at hj; exact .inr (by omega)⟩)
  show o_bslice l.length esz zero parts ls vs h = _
  simp only [o_bslice, hp, hf]

def plainK : AK → Bool
  | .build _ _ => false
  | .mx _ _ => false
  | .mn _ _ => false
  | _ => true

/-- An operation that turns no memory, and puts nothing together. -/
theorem w_opk {k : AK} {v : V} (hp : plainK k = true) (e : opv k ls vs h = some (v, h)) (k1 : WPo T O os (v :: ls) vs h Q) : WPo T O (⟨none, k⟩ :: os) ls vs h Q := w_op e k1

theorem over_all : ∀ {a b : List V}, a.length = b.length → over a b = a
  | [], [], _ => rfl
  | x :: a, y :: b, h => by simp only [over]; rw [over_all (by simpa using h)]
  | [], _ :: _, h => by cases h
  | _ :: _, [], h => by cases h

/-- A literal of one element. -/
theorem w_lit1 {esz : Nat} {zero : List V} {x : Opd} {v0 : V} (hx : ev ls vs x = some v0) (hl : v0.cells.length = esz) (hz : zero.length = esz) (h1 : allOne v0.cells = true)
    (k1 : ∀ v' h', Ow h' esz v' [v0.cells] → Fr h .nils h' v' → WPo T O os (v' :: ls) vs h' Q) : WPo T O (⟨none, .bslice 1 esz zero [(0, esz, x)]⟩ :: os) ls vs h Q := by
  refine w_bslice (ps := [(0, esz, v0)]) (cs := v0.cells) [v0.cells] ?_ ?_ (by simp) rfl (by simp [hl]) k1
  · simp only [evp, hx]
  · have e1 : rep 1 zero = zero := by simp [rep]
    have e2 : Nat.ble (0 + esz) zero.length = true := by rw [hz, nble]; omega
    simp only [fillP, e1, nbeq.2 hl, e2, h1, Bool.and_self, splice, over_all (hl.trans hz.symm)]

/-- One element behind a slice. -/
theorem w_push {esz : Nat} {zero : List V} {x s : Opd} {v0 v : V} {l : List (List V)} (hx : ev ls vs x = some v0) (hl : v0.cells.length = esz) (hz : zero.length = esz) (h1 : allOne v0.cells = true)
    (hs : ∀ y, ev (y :: ls) vs s = some v) (ho : Ow h esz v l) (hroom : l.length + 1 ≤ 4294967296)
    (k1 : ∀ a v' h', Ow h' esz v' (l ++ [v0.cells]) → Fr h v h' v' → WPo T O os (v' :: a :: ls) vs h' Q) : WPo T O (⟨none, .bslice 1 esz zero [(0, esz, x)]⟩ :: ⟨none, .app esz s (.loc 0)⟩ :: os) ls vs h Q := by
  refine w_lit1 hx hl hz h1 fun a h2 ha hf => ?_
  refine w_app (hs a) rfl (ho.ext0 hf.ext0) ha.rs (by simpa using hroom) fun v' h3 hv hf2 => ?_
  exact k1 a v' h3 hv ((Fr.of_ext v hf.ext0).trans hf2)

/-- An object of its own: its cells, none of it yet looked at by elder versions. -/
def Own (h : Heap) (id : Nat) (cs : List V) : Prop := id < h.n ∧ ∃ low, h.get id = some (.cells cs 0 low)

theorem Own.ext {S : List Nat} {h h' : Heap} {id : Nat} {cs : List V} (hE : ExtX S h h') (k : Own h id cs) (hs : id ∉ S) : Own h' id cs := by
  obtain ⟨h1, low, h2⟩ := k
  exact ⟨Nat.lt_of_lt_of_le h1 hE.1, low, hE.get h1 hs h2⟩

theorem Own.ext0 {h h' : Heap} {id : Nat} {cs : List V} (hE : Ext h h') (k : Own h id cs) : Own h' id cs := k.ext hE (by simp)

theorem Own.at {h : Heap} {id hi : Nat} {cs : List V} (k : Own h id cs) (hl : cs.length = hi) : At h (.ptr id 0 0 hi) cs := by
  obtain ⟨_, low, h2⟩ := k
  subst hl
  exact .inr ⟨id, 0, 0, _, cs, 0, low, rfl, h2, good_refl (by omega), by omega, by simp⟩

theorem w_box {size : Nat} {x : Opd} {v : V} (hx : ev ls vs x = some v) (hl : v.cells.length = size) (h1 : allOne v.cells = true)
    (k1 : ∀ id h', Own h' id v.cells → h.n ≤ id → Ext h h' → WPo T O os (.ptr id 0 0 size :: ls) vs h' Q) : WPo T O (⟨none, .box size x⟩ :: os) ls vs h Q := by
  refine w_op (v := .ptr h.n 0 0 size) (h1 := h.alloc (.cells v.cells 0 0)) ?_ (k1 h.n _ ⟨by simp, 0, by rw [Heap.get_alloc, if_pos rfl]⟩ (Nat.le_refl _) (ExtX.alloc _ _))
  show o_box size x ls vs h = _
  simp only [o_box, hx, h1, nbeq.2 hl, Bool.and_self]

theorem w_alloc {zero : List V} (k1 : ∀ id h', Own h' id zero → h.n ≤ id → Ext h h' → WPo T O os (.ptr id 0 0 zero.length :: ls) vs h' Q) : WPo T O (⟨none, .alloc zero⟩ :: os) ls vs h Q := by
  refine w_op (v := .ptr h.n 0 0 zero.length) (h1 := h.alloc (.cells zero 0 0)) ?_ (k1 h.n _ ⟨by simp, 0, by rw [Heap.get_alloc, if_pos rfl]⟩ (Nat.le_refl _) (ExtX.alloc _ _))
  rfl

theorem w_store {n : Nat} {a x : Opd} {id off hi : Nat} {v : V} {cs : List V} (ha : ev ls vs a = some (.ptr id off 0 hi)) (hx : ev ls vs x = some v) (ho : Own h id cs) (hl : v.cells.length = n) (h1 : allOne v.cells = true) (hb : off + n ≤ hi) (hb2 : off + n ≤ cs.length)
    (k1 : ∀ h', Own h' id (splice cs off v.cells) → ExtX [id] h h' → h'.n = h.n → WPo T O os (.any :: ls) vs h' Q) : WPo T O (⟨none, .store n a x⟩ :: os) ls vs h Q := by
  obtain ⟨g1, low, g2⟩ := ho
  refine w_op (v := .any) (h1 := h.set id (.cells (splice cs off v.cells) 0 (minN low off))) ?_ (k1 _ ⟨g1, minN low off, by rw [Heap.get_set, if_pos rfl]⟩ (ExtX.set _ (by simp) _) rfl)
  show o_store n a x ls vs h = _
  simp only [o_store, ha, hx, wr, g2, h1, nbeq.2 hl, nble.2 hb, nble.2 hb2, show Nat.beq 0 0 = true from rfl, Bool.and_self]

theorem splice_app_r : ∀ {a b xs : List V} {k : Nat}, splice (a ++ b) (a.length + k) xs = a ++ splice b k xs
  | [], b, xs, k => by simp
  | y :: a, b, xs, k => by
    rw [List.length_cons, show a.length + 1 + k = (a.length + k) + 1 by omega, List.cons_append, splice, splice_app_r]
    rfl

mutual
theorem V.beq_refl : ∀ v : V, V.beq v v = true
  | .any | .nilp | .nils | .nilm | .nilf | .nili => rfl
  | .bool b => by simp [V.beq]
  | .int k n => by simp [V.beq]
  | .str s => by simp only [V.beq]; exact eqBytes_refl s
  | .ptr a b c d => by simp only [V.beq, show ∀ n, Nat.beq n n = true from fun n => nbeq.2 rfl, Bool.and_self]
  | .vptr v o => by simp only [V.beq, V.beq_refl v, show ∀ n, Nat.beq n n = true from fun n => nbeq.2 rfl, Bool.and_self]
  | .sl a b c d e f => by simp only [V.beq, show ∀ n, Nat.beq n n = true from fun n => nbeq.2 rfl, Bool.and_self, BEq.rfl]
  | .vec l => by simp only [V.beq]; exact V.beqL_refl l
  | .map i => by simp only [V.beq]; exact nbeq.2 rfl
  | .fn f a b => by simp only [V.beq, V.beqL_refl a, V.beqL_refl b, show ∀ n, Nat.beq n n = true from fun n => nbeq.2 rfl, Bool.and_self]
  | .iface t v => by simp only [V.beq, V.beq_refl v, show ∀ n, Nat.beq n n = true from fun n => nbeq.2 rfl, Bool.and_self]
  | .agg l => by simp only [V.beq]; exact V.beqL_refl l
  | .tuple l => by simp only [V.beq]; exact V.beqL_refl l
  | .sym i => by simp only [V.beq]; exact nbeq.2 rfl
theorem V.beqL_refl : ∀ l : List V, V.beqL l l = true
  | [] => rfl
  | a :: l => by simp only [V.beqL, V.beq_refl a, V.beqL_refl l, Bool.and_self]
theorem eqBytes_refl : ∀ s : List UInt8, eqBytes s s = true
  | [] => rfl
  | a :: s => by simp only [eqBytes, show Nat.beq a.toNat a.toNat = true from nbeq.2 rfl]; exact eqBytes_refl s
end

/-- Is a slice nil? -/
theorem w_isnil {x : Opd} {esz : Nat} {v : V} {l : List (List V)} (hx : ev ls vs x = some v) (hr : RS h esz v l) (k1 : v = .nils → WPo T O os (.bool true :: ls) vs h Q) (k2 : v ≠ .nils → WPo T O os (.bool false :: ls) vs h Q) : WPo T O (⟨none, .bin .eql .slice x (.cst .nils)⟩ :: os) ls vs h Q := by
  have h2 := hr.2.1
  cases v with
  | nils => exact w_op (o_bin_v hx rfl rfl) (k1 rfl)
  | vec es => exact w_op (o_bin_v hx rfl rfl) (k2 (by simp))
  | sl a b c d e f => exact w_op (o_bin_v hx rfl rfl) (k2 (by simp))
  | _ => cases h2

/-- A slice just made, of which nothing has turned. -/
def NewS (h : Heap) (v : V) (c : List V) : Prop := ∃ id n e f low, v = .sl id 0 n 0 e f ∧ id < h.n ∧ h.get id = some (.cells c 0 low)
theorem NewS.ext {S : List Nat} {h h' : Heap} {v : V} {c : List V} (hE : ExtX S h h') (k : NewS h v c) (hs : ∀ j ∈ slIds v, j ∉ S) : NewS h' v c := by
  obtain ⟨id, n, e, f, low, rfl, h1, h2⟩ := k
  exact ⟨id, n, e, f, low, rfl, Nat.lt_of_lt_of_le h1 hE.1, hE.get h1 (hs id (by simp [slIds])) h2⟩
theorem w_snapP {i id hi : Nat} {c : List V} (hi' : nth ls i = some (.ptr id 0 0 hi)) (k : Own h id c) (k1 : WPo T O os (.agg c :: ls) vs h Q) : WPo T O (⟨none, .snap i⟩ :: os) ls vs h Q := by
  obtain ⟨h1, low, h2⟩ := k
  refine w_op ?_ k1
  show o_snap i ls vs h = _
  simp only [o_snap, hi', newId, h2, snapV]

theorem w_chkObjP {i j id hi : Nat} {c : List V} (hi' : nth ls i = some (.ptr id 0 0 hi)) (hj : nth ls j = some (.agg c)) (k : Own h id c) (k1 : WPo T O os (.any :: ls) vs h Q) : WPo T O (⟨none, .chkObj i j⟩ :: os) ls vs h Q := by
  obtain ⟨h1, low, h2⟩ := k
  refine w_op ?_ k1
  show o_chkObj i j ls vs h = _
  simp only [o_chkObj, hi', hj, newId, h2, snapV, V.beq_refl]

/-- A variable of one's own, with what it holds at first. -/
theorem w_new {n : Nat} {zero : List V} {x : Opd} {v : V} (hx : ∀ p, ev (p :: ls) vs x = some v) (hl : v.cells.length = n) (hz : zero.length = n) (h1 : allOne v.cells = true)
    (k1 : ∀ id h', Own h' id v.cells → h.n ≤ id → Ext h h' → WPo T O os (.any :: .ptr id 0 0 n :: ls) vs h' Q) : WPo T O (⟨none, .alloc zero⟩ :: ⟨none, .store n (.loc 0) x⟩ :: os) ls vs h Q := by
  subst hz
  refine w_alloc fun id h2 ho hn hE => ?_
  refine w_store rfl (hx _) ho hl h1 (by omega) (by omega) fun h3 ho3 hE3 _ => ?_
  refine k1 id h3 ?_ hn (hE.step hE3 fun j hj => by simp at hj; exact .inr (by omega))
  rwa [show splice zero 0 v.cells = v.cells from by rw [splice]; exact over_all hl] at ho3

end rules

end Am

/-
  Plain data by value is typed: what kind each cell is of; and how much of it there is.
-/
namespace Am
open Go
set_option linter.unusedSimpArgs false
set_option linter.unusedVariables false

variable {Hd : Type}

def TyVs (R : TypeId → List V → Prop) : List TypeId → List V → Prop
  | [], cs => cs = []
  | t :: ts, cs => ∃ a b, cs = a ++ b ∧ R t a ∧ TyVs R ts b

/-- Cells of a type, by value. -/
def TyV (P : Program) : Nat → TypeId → List V → Prop
  | 0, _, _ => False
  | n + 1, t, cs => match P.underlying t with
    | some .bool => ∃ b, cs = [.bool b]
    | some (.int k) => ∃ i, cs = [.int k i] ∧ (Lit.int k i).wf = true
    | some .string => ∃ s, cs = [.str s]
    | some (.slice e) => cs = [.nils] ∨ ∃ es : List (List V), cs = [.vec (es.map .agg)] ∧ ∀ c ∈ es, TyV P n e c
    | some (.struct fs) => TyVs (TyV P n) (fs.toList.map (·.type)) cs
    | some (.array m e) => TyVs (TyV P n) (List.replicate m e) cs
    | _ => False

theorem elemsD_map : ∀ (ds : List (DataW Hd)), elemsD ds = (ds.map cellsD).map .agg
  | [] => rfl
  | d :: l => by simp [elemsD, elemsD_map l]

theorem tyVs_of {R : TypeId → List V → Prop} : ∀ (ts : List TypeId) (xs : List (DataW Hd × List MemPlace)), xs.length = ts.length → (∀ (i : Nat) (t : TypeId), ts[i]? = some t → ∃ y, xs[i]? = some y ∧ R t (cellsD y.1)) → TyVs R ts (cellsDL (xs.map (·.1)))
  | [], [], _, _ => rfl
  | [], _ :: _, h, _ => by cases h
  | _ :: _, [], h, _ => by cases h
  | t :: ts, x :: xs, h, k => by
    refine ⟨cellsD x.1, cellsDL (xs.map (·.1)), by simp [cellsDL], ?_, tyVs_of ts xs (by simpa using h) fun i t' ht => ?_⟩
    · obtain ⟨y, hy, hr⟩ := k 0 t rfl
      simp at hy; subst hy; exact hr
    · obtain ⟨y, hy, hr⟩ := k (i + 1) t' (by simpa using ht)
      exact ⟨y, by simpa using hy, hr⟩

theorem ty_of_trod {enc : TypeId × Value → Hd} {P : Program} {W : World} {ts : List TypeId} {base : Nat} {spare : Nat → Bool} {held : Bool} (hp : plainB P ts = true) :
    ∀ (fuel : Nat) (t : TypeId) (cs : List Value) (x : DataW Hd × List MemPlace), t ∈ ts → DataW.trod enc P W base spare held fuel t cs = some x → TyV P fuel t (cellsD x.1)
  | 0, t, cs, x, ht, h => by simp [DataW.trod] at h
  | fuel + 1, t, cs, x, ht, h => by
    have hpt := List.all_eq_true.1 hp t ht
    unfold plainT at hpt
    unfold TyV
    split at hpt
    · rename_i hu
      obtain ⟨b, rfl, rfl⟩ := DataW.trod_bool hu h
      try simp only [hu]
      exact ⟨b, rfl⟩
    · rename_i hu
      obtain ⟨n, rfl, rfl, hw⟩ := DataW.trod_int hu h
      try simp only [hu]
      exact ⟨n, rfl, hw⟩
    · rename_i hu
      obtain ⟨s, rfl, rfl, _⟩ := DataW.trod_string hu h
      try simp only [hu]
      exact ⟨_, rfl⟩
    · rename_i e hu
      simp only [Bool.and_eq_true, List.contains_iff_mem] at hpt
      obtain ⟨⟨h1, he⟩, hce⟩ := hpt
      try simp only [hu]
      rcases DataW.trod_slice hu h with ⟨rfl, rfl⟩ | ⟨a, len, cap, elems, rest, n, hn, rfl, rfl, hb, hlc, _, hel, hget, _⟩
      · exact .inl rfl
      · cases hn
        refine .inr ⟨(elems.map (·.1)).map cellsD, by simp only [cellsD, elemsD_map], fun c hc => ?_⟩
        simp only [List.mem_map] at hc
        obtain ⟨d, ⟨y, hy, rfl⟩, rfl⟩ := hc
        obtain ⟨i, hi, e1⟩ := List.mem_iff_getElem.1 hy
        have := hget i (by omega)
        rw [List.getElem?_eq_getElem hi, e1] at this
        obtain ⟨cs', hc1, hc2⟩ := Option.bind_eq_some_iff.1 this
        exact ty_of_trod hp fuel e cs' y he hc2
    · rename_i fs hu
      simp only [Bool.and_eq_true, List.all_eq_true, List.contains_iff_mem] at hpt
      obtain ⟨hts, hcon⟩ := hpt
      try simp only [hu]
      obtain ⟨xs, n, hn, rfl, hl, hxl, hget⟩ := DataW.trod_struct hu h
      cases hn
      simp only [cellsD]
      refine tyVs_of _ xs (by simp [hxl]) fun i t' ht' => ?_
      simp only [List.getElem?_map, Option.map_eq_some_iff] at ht'
      obtain ⟨f, hf, rfl⟩ := ht'
      have hf' : fs[i]? = some f := by simpa using hf
      have hg := hget i f hf'
      obtain ⟨y, hy⟩ : ∃ y, xs[i]? = some y := by
        have : i < fs.size := (Array.getElem?_eq_some_iff.1 hf').1
        exact ⟨xs[i]'(by omega), by simp [hxl, this]⟩
      rw [hy] at hg
      exact ⟨y, hy, ty_of_trod hp fuel f.type _ y (hts f (List.mem_of_getElem? hf)) hg⟩
    · rename_i m e hu
      simp only [Bool.and_eq_true, List.contains_iff_mem] at hpt
      obtain ⟨he, hcon⟩ := hpt
      try simp only [hu]
      obtain ⟨xs, n, hn, rfl, hl, hxl, hget⟩ := trod_array_get hu h
      cases hn
      simp only [cellsD]
      refine tyVs_of _ xs (by simp [hxl]) fun i t' ht' => ?_
      obtain ⟨hi, rfl⟩ : i < m ∧ e = t' := by
        rw [List.getElem?_replicate] at ht'
        split at ht'
        · rename_i hlt; exact ⟨hlt, by simpa using ht'⟩
        · cases ht'
      have hg := hget i hi
      obtain ⟨y, hy⟩ : ∃ y, xs[i]? = some y := ⟨xs[i]'(by omega), by simp [hxl, hi]⟩
      rw [hy] at hg
      exact ⟨y, hy, ty_of_trod hp fuel e _ y he hg⟩
    · cases hpt

mutual
/-- How much there is of a value: every part, every letter. -/
def bulkV : V → Nat
  | .agg cs => bulkL cs
  | .vec es => bulkL es + 1
  | .str s => s.length + 1
  | _ => 1
def bulkL : List V → Nat
  | [] => 0
  | v :: l => bulkV v + bulkL l
end

theorem bulkL_append : ∀ (a b : List V), bulkL (a ++ b) = bulkL a + bulkL b
  | [], b => by simp [bulkL]
  | x :: a, b => by simp [bulkL, bulkL_append a b]; omega

theorem bulk_one {v : V} (h : v.one = true) : 1 ≤ bulkV v := by
  cases v <;> first
    | exact Nat.le_refl _
    | exact Nat.le_add_left _ _
    | cases h

theorem bulk_len : ∀ {c : List V}, allOne c = true → c.length ≤ bulkL c
  | [], _ => Nat.le_refl _
  | v :: c, h => by
    have h1 := bulk_one (allOne_iff.1 h v (by simp))
    have h2 := bulk_len (c := c) (allOne_iff.2 fun x hx => allOne_iff.1 h x (by simp [hx]))
    simp only [bulkL, List.length_cons]; omega

theorem bulk_mem : ∀ {es : List (List V)} {c : List V}, c ∈ es → bulkL c ≤ bulkL (es.map .agg)
  | e :: es, c, h => by
    simp only [List.map_cons, bulkL, bulkV]
    rcases List.mem_cons.1 h with rfl | h
    · omega
    · have := bulk_mem h; omega

theorem bulk_count : ∀ {es : List (List V)}, (∀ c ∈ es, allOne c = true ∧ 1 ≤ c.length) → es.length ≤ bulkL (es.map .agg)
  | [], _ => Nat.le_refl _
  | e :: es, h => by
    have h1 := h e (by simp)
    have h2 := bulk_count (es := es) fun c hc => h c (by simp [hc])
    have h3 := bulk_len h1.1
    simp only [List.map_cons, bulkL, bulkV, List.length_cons]; omega

theorem tyVs_one {R : TypeId → List V → Prop} (hR : ∀ t cs, R t cs → allOne cs = true) : ∀ (ts : List TypeId) (cs : List V), TyVs R ts cs → allOne cs = true
  | [], _, h => by
    simp only [TyVs] at h
    subst h
    rfl
  | t :: ts, cs, h => by
    obtain ⟨a, b, rfl, h1, h2⟩ := h
    exact allOne_append (hR t a h1) (tyVs_one hR ts b h2)

theorem ty_one {P : Program} : ∀ (n : Nat) (t : TypeId) (cs : List V), TyV P n t cs → allOne cs = true
  | 0, _, _, h => h.elim
  | n + 1, t, cs, h => by
    unfold TyV at h
    split at h
    · obtain ⟨b, rfl⟩ := h; rfl
    · obtain ⟨b, rfl, _⟩ := h; rfl
    · obtain ⟨b, rfl⟩ := h; rfl
    · rcases h with rfl | ⟨es, rfl, _⟩ <;> rfl
    · exact tyVs_one (ty_one n) _ _ h
    · exact tyVs_one (ty_one n) _ _ h
    · exact h.elim

section open_types
variable {P : Program} {n : Nat} {t : TypeId} {cs : List V}

theorem ty_int {k : IntKind} (hu : P.underlying t = some (.int k)) (h : TyV P n t cs) : ∃ i, cs = [.int k i] ∧ (Lit.int k i).wf = true := by
  cases n with
  | zero => exact h.elim
  | succ n => simpa only [TyV, hu] using h
theorem ty_str (hu : P.underlying t = some .string) (h : TyV P n t cs) : ∃ s, cs = [.str s] := by
  cases n with
  | zero => exact h.elim
  | succ n => simpa only [TyV, hu] using h
/-- A slice's elements, whatever the heap. -/
theorem ty_slice {e : TypeId} (hu : P.underlying t = some (.slice e)) (h : TyV P n t cs) :
    ∃ v es m, cs = [v] ∧ (∀ (H : Nat → List V → Prop), True) ∧ n = m + 1 ∧ (∀ c ∈ es, TyV P m e c) ∧ bulkL (es.map .agg) ≤ bulkL cs ∧ (v = .nils ∧ es = [] ∨ v = .vec (es.map .agg)) := by
  cases n with
  | zero => exact h.elim
  | succ n =>
    simp only [TyV, hu] at h
    rcases h with rfl | ⟨es, rfl, h⟩
    · exact ⟨_, [], n, rfl, fun _ => trivial, rfl, by simp, by simp [bulkL], .inl ⟨rfl, rfl⟩⟩
    · exact ⟨_, es, n, rfl, fun _ => trivial, rfl, h, by simp only [bulkL, bulkV]; omega, .inr rfl⟩
theorem ty_struct {fs : Array Field} {ts : List TypeId} (hu : P.underlying t = some (.struct fs)) (ht : fs.toList.map (·.type) = ts) (h : TyV P n t cs) : ∃ m, n = m + 1 ∧ TyVs (TyV P m) ts cs := by
  cases n with
  | zero => exact h.elim
  | succ n =>
    simp only [TyV, hu] at h
    exact ⟨n, rfl, ht ▸ h⟩
end open_types

end Am

/-
  An argument that the row reads, as an abstract value: typed, and what lies there.
-/
namespace Am
open Go

variable {Hd : Type} {enc : TypeId × Value → Hd} {P : Program} {W : World} {tk : Nat → Option Value} {ts : List TypeId} {base : Nat} {spare : Nat → Bool} {held : Bool} {t : TypeId} {d : DataW Hd} {p : List MemPlace}

theorem arg_agg (hp : plainB P ts = true) (ht : t ∈ ts) {arr : Array Value} (h : ∃ fuel, DataW.trod enc P W base spare held fuel t (Value.agg arr).cells.toList = some (d, p)) :
    (∃ n, TyV P n t (cellsD d)) ∧ VR (E0 W tk) (.agg (cellsD d)) (.agg arr) := by
  obtain ⟨fuel, h⟩ := h
  have h : DataW.trod enc P W base spare held fuel t arr.toList = some (d, p) := h
  obtain ⟨h1, h2, h3⟩ := open_ok (tk := tk) hp fuel t arr.toList (d, p) ht h
  refine ⟨⟨fuel, ty_of_trod hp fuel t arr.toList (d, p) ht h⟩, .agg ?_ fun i c x hc hx => h3 i c x hc (by simpa using hx)⟩
  simp only at h1
  rw [h1, ← h2]
  simp

end Am

/-
  The program's plain data as cells: instructions, functions, roles, modules.
-/
namespace Am
open Go
set_option linter.unusedSimpArgs false
set_option linter.unusedVariables false

/-- A field of an object of one's own. -/
theorem w_rf {T : Nat → Option AFunc} {O : CallF} {vs ls : List V} {h : Heap} {Q : List V → Heap → Prop} {os : List AOp} {d hi id : Nat} {x : Opd} {cs : List V} {v : V} (hx : ev ls vs x = some (.ptr id 0 0 hi)) (ho : Own h id cs) (hv : nth cs d = some v) (hd : Nat.blt d hi = true) (hl : cs.length = hi)
    (k1 : WPo T O os (v :: .ptr id (0 + d) 0 hi :: ls) vs h Q) : WPo T O (⟨none, .fadr d x⟩ :: ⟨none, .load false 1 (.loc 0)⟩ :: os) ls vs h Q := by
  have hd := nblt.1 hd
  refine w_op (v := .ptr id (0 + d) 0 hi) (h1 := h) ?_ ?_
  · show o_fadr d x ls vs h = _
    simp only [o_fadr, hx]
  · have hA := (ho.at hl).fadr (d := d) (by omega)
    have hc : cs.drop d = v :: cs.drop (d + 1) := by
      rw [nth_eq] at hv
      obtain ⟨h1, h2⟩ := List.getElem?_eq_some_iff.1 hv
      rw [List.drop_eq_getElem_cons h1, h2]
    rw [hc] at hA
    exact w_load1 (p := .ptr id (0 + d) 0 hi) rfl hA rfl k1

theorem w_rfg {T : Nat → Option AFunc} {O : CallF} {vs ls : List V} {h : Heap} {Q : List V → Heap → Prop} {os : List AOp} {d hi id : Nat} {x : Opd} {cs : List V} {v : V} {g1 g2 : Nat × Bool} (h1 : wantedV ls (some g1) = some true) (hx : ev ls vs x = some (.ptr id 0 0 hi)) (ho : Own h id cs) (hv : nth cs d = some v) (hd : Nat.blt d hi = true) (hl : cs.length = hi)
    (h2 : wantedV (.ptr id (0 + d) 0 hi :: ls) (some g2) = some true) (k1 : WPo T O os (v :: .ptr id (0 + d) 0 hi :: ls) vs h Q) : WPo T O (⟨some g1, .fadr d x⟩ :: ⟨some g2, .load false 1 (.loc 0)⟩ :: os) ls vs h Q := by
  have hd := nblt.1 hd
  refine w_on h1 (w_op (v := .ptr id (0 + d) 0 hi) (h1 := h) ?_ (w_on h2 ?_))
  · show o_fadr d x ls vs h = _
    simp only [o_fadr, hx]
  · have hA := (ho.at hl).fadr (d := d) (by omega)
    have hc : cs.drop d = v :: cs.drop (d + 1) := by
      rw [nth_eq] at hv
      obtain ⟨h1, h2⟩ := List.getElem?_eq_some_iff.1 hv
      rw [List.drop_eq_getElem_cons h1, h2]
    rw [hc] at hA
    exact w_load1 (p := .ptr id (0 + d) 0 hi) rfl hA rfl k1

/-! ### Numbers that count -/
section nat
variable {T : Nat → Option AFunc} {O : CallF} {vs ls : List V} {h : Heap} {Q : List V → Heap → Prop} {os : List AOp} {q : EqK} {x y : Opd} {k : IntKind} {a b : Nat}

theorem w_lssN (hx : ev ls vs x = some (.int k (.ofNat a))) (hy : ev ls vs y = some (.int k (.ofNat b))) (k1 : a < b → WPo T O os (.bool true :: ls) vs h Q) (k2 : b ≤ a → WPo T O os (.bool false :: ls) vs h Q) : WPo T O (⟨none, .bin .lss q x y⟩ :: os) ls vs h Q :=
  w_lss hx hy (fun e => k1 (Int.ofNat_lt.1 e)) (fun e => k2 (Int.ofNat_le.1 e))
theorem w_leqN (hx : ev ls vs x = some (.int k (.ofNat a))) (hy : ev ls vs y = some (.int k (.ofNat b))) (k1 : a ≤ b → WPo T O os (.bool true :: ls) vs h Q) (k2 : b < a → WPo T O os (.bool false :: ls) vs h Q) : WPo T O (⟨none, .bin .leq q x y⟩ :: os) ls vs h Q :=
  w_leq hx hy (fun e => k1 (Int.ofNat_le.1 e)) (fun e => k2 (Int.ofNat_lt.1 e))
theorem w_gtrN (hx : ev ls vs x = some (.int k (.ofNat a))) (hy : ev ls vs y = some (.int k (.ofNat b))) (k1 : b < a → WPo T O os (.bool true :: ls) vs h Q) (k2 : a ≤ b → WPo T O os (.bool false :: ls) vs h Q) : WPo T O (⟨none, .bin .gtr q x y⟩ :: os) ls vs h Q :=
  w_gtr hx hy (fun e => k1 (Int.ofNat_lt.1 e)) (fun e => k2 (Int.ofNat_le.1 e))
theorem w_eqlN (hx : ev ls vs x = some (.int k (.ofNat a))) (hy : ev ls vs y = some (.int k (.ofNat b))) (k1 : a = b → WPo T O os (.bool true :: ls) vs h Q) (k2 : a ≠ b → WPo T O os (.bool false :: ls) vs h Q) : WPo T O (⟨none, .bin .eql q x y⟩ :: os) ls vs h Q :=
  w_eql hx hy (fun e => k1 (Int.ofNat.inj e)) (fun e => k2 fun e' => e (by rw [e']))
theorem w_neqN (hx : ev ls vs x = some (.int k (.ofNat a))) (hy : ev ls vs y = some (.int k (.ofNat b))) (k1 : a ≠ b → WPo T O os (.bool true :: ls) vs h Q) (k2 : a = b → WPo T O os (.bool false :: ls) vs h Q) : WPo T O (⟨none, .bin .neq q x y⟩ :: os) ls vs h Q :=
  w_neq hx hy (fun e => k1 fun e' => e (by rw [e'])) (fun e => k2 (Int.ofNat.inj e))

theorem wrap_i64_nat {n : Nat} (h : n < 9223372036854775808) : IntKind.i64.wrap (Int.ofNat n) = Int.ofNat n := by
  have : Int.ofNat n = (n : Int) := rfl
  simp only [IntKind.wrap, IntKind.signed, IntKind.bits, Bool.true_and, ge_iff_le, decide_eq_true_eq]
  split <;> omega

theorem w_addN (hx : ev ls vs x = some (.int .i64 (.ofNat a))) (hy : ev ls vs y = some (.int .i64 (.ofNat b))) (hb : a + b < 9223372036854775808) (k1 : WPo T O os (.int .i64 (.ofNat (a + b)) :: ls) vs h Q) : WPo T O (⟨none, .bin .add q x y⟩ :: os) ls vs h Q :=
  w_add hx hy (wrap_i64_nat hb) k1
theorem w_subN (hx : ev ls vs x = some (.int .i64 (.ofNat a))) (hy : ev ls vs y = some (.int .i64 (.ofNat b))) (hb : b ≤ a) (ha : a < 9223372036854775808) (k1 : WPo T O os (.int .i64 (.ofNat (a - b)) :: ls) vs h Q) : WPo T O (⟨none, .bin .sub q x y⟩ :: os) ls vs h Q := by
  have e : Int.ofNat a - Int.ofNat b = Int.ofNat (a - b) := by
    show (a : Int) - (b : Int) = ((a - b : Nat) : Int)
    omega
  refine w_op (o_bin_v hx hy ?_) k1
  simp only [binV, if_true, intBin, e, wrap_i64_nat (show a - b < 9223372036854775808 by omega)]
end nat

/-- A region's end: the variables written out. -/
theorem w_end {T : Nat → Option AFunc} {O : CallF} {vs ls vs' : List V} {h : Heap} {N : Pred2} {outs : List (Nat × Nat)} (hv : outsV ls outs vs = some vs') (k : N vs' h) : WPo T O [] ls vs h (fun ls h' => ∃ vs'', outsV ls outs vs = some vs'' ∧ N vs'' h') :=
  w_nil ⟨vs', hv, k⟩

/-- The same, by reckoning. -/
theorem w_e {T : Nat → Option AFunc} {O : CallF} {vs ls vs' : List V} {h : Heap} {N : Pred2} {outs : List (Nat × Nat)} (k : N vs' h) (hv : outsV ls outs vs = some vs' := by simp only [outsV, nth, setV, List.take_succ_cons, List.take_zero, List.length_cons, List.length_nil, Nat.zero_add, Nat.reduceAdd] <;> rfl) : WPo T O [] ls vs h (fun ls h' => ∃ vs'', outsV ls outs vs = some vs'' ∧ N vs'' h') :=
  w_end hv k

/-- A function's begin: the variables written out. -/
theorem w_fn' {T : Nat → Option AFunc} {O : CallF} {h : Heap} {f : Nat} {a : AFunc} {args vs0 : List V} {Q : V → Heap → Prop} (hO : O f args h = none) (hT : T f = some a) (hl : Nat.beq args.length a.nparams = true) (hv : initV a.slots args = vs0) (k : WPx T O a.code vs0 h (Rt a.res Q) [] (Rt a.res Q)) : WPc T O f args h Q := by
  subst hv
  exact w_fn hO hT hl k

/-- A function's end. -/
theorem w_rt {vs l : List V} {h : Heap} {rs : List ARes} {Q : V → Heap → Prop} (e : resV vs h rs = some l) (q : Q (packV l) h) : Rt rs Q vs h := ⟨l, e, q⟩

/-- A look again. -/
theorem w_chk1 {T : Nat → Option AFunc} {O : CallF} {vs ls : List V} {h : Heap} {Q : List V → Heap → Prop} {os : List AOp} {i : Nat} {a : Opd} {p x : V} {c : List V} (hi : nth ls i = some x) (ha : ev ls vs a = some p) (k : At h p (x :: c)) (hb : V.beq x x = true) (k1 : WPo T O os (.any :: ls) vs h Q) :
    WPo T O (⟨none, .chk i false 1 a⟩ :: os) ls vs h Q := by
  refine w_op ?_ k1
  show o_chk i false 1 a ls vs h = _
  simp only [o_chk, ha, hi, k.one, hb]

theorem w_chkA {T : Nat → Option AFunc} {O : CallF} {vs ls : List V} {h : Heap} {Q : List V → Heap → Prop} {os : List AOp} {i n : Nat} {a : Opd} {p : V} {c : List V} (hi : nth ls i = some (.agg (c.take n))) (ha : ev ls vs a = some p) (k : At h p c) (hn : n ≤ c.length) (hb : V.beqL (c.take n) (c.take n) = true) (k1 : WPo T O os (.any :: ls) vs h Q) :
    WPo T O (⟨none, .chk i true n a⟩ :: os) ls vs h Q := by
  refine w_op ?_ k1
  show o_chk i true n a ls vs h = _
  simp only [o_chk, ha, hi, k.agg hn, V.beq, hb]

/-- A place of an array of one's own. -/
theorem w_iadrA {T : Nat → Option AFunc} {O : CallF} {vs ls : List V} {h : Heap} {Q : List V → Heap → Prop} {os : List AOp} {len esz id off ver hi j : Nat} {x i : Opd} {k : IntKind} (hx : ev ls vs x = some (.ptr id off ver hi)) (hi' : ev ls vs i = some (.int k (.ofNat j))) (hj : j < len) (k1 : WPo T O os (.ptr id (off + j * esz) ver hi :: ls) vs h Q) :
    WPo T O (⟨none, .iadrA len esz x i⟩ :: os) ls vs h Q := by
  refine w_op ?_ k1
  show o_iadrA len esz x i ls vs h = _
  simp only [o_iadrA, hx, hi', idxNat, natOf, nblt.2 hj]

theorem w_rem {T : Nat → Option AFunc} {O : CallF} {vs ls : List V} {h : Heap} {Q : List V → Heap → Prop} {os : List AOp} {q : EqK} {x y : Opd} {k : IntKind} {a b : Int} (hx : ev ls vs x = some (.int k a)) (hy : ev ls vs y = some (.int k b)) (hb : b ≠ 0) (k1 : WPo T O os (.int k (a.tmod b) :: ls) vs h Q) : WPo T O (⟨none, .bin .rem q x y⟩ :: os) ls vs h Q :=
  w_op (o_bin_v hx hy (by simp only [binV, if_true, intBin, if_neg hb])) k1

theorem w_build {T : Nat → Option AFunc} {O : CallF} {vs ls : List V} {h : Heap} {Q : List V → Heap → Prop} {os : List AOp} {zero : List V} {parts : List (Nat × Nat × Opd)} {ps : List (Nat × Nat × V)} (cs : List V) (hp : evp ls vs parts = some ps) (hf : fillP zero ps = some cs) (k1 : WPo T O os (.agg cs :: ls) vs h Q) : WPo T O (⟨none, .build zero parts⟩ :: os) ls vs h Q := by
  refine w_op (v := .agg cs) (h1 := h) ?_ k1
  show o_build zero parts ls vs h = _
  simp only [o_build, hp, hf]

/-- A place out of any number. -/
theorem pick_range {n : Int} {L : Nat} (hL : 0 < L) : ∃ k : Nat, k < L ∧ (n.tmod (Int.ofNat L) + Int.ofNat L).tmod (Int.ofNat L) = Int.ofNat k := by
  have e : Int.ofNat L = (L : Int) := rfl
  have h1 : -(L : Int) < n.tmod L := Int.lt_tmod_of_pos n (by omega)
  have h2 : 0 ≤ n.tmod (L : Int) + L := by omega
  have h3 : (n.tmod L + L).tmod (L : Int) = (n.tmod L + L) % (L : Int) := Int.tmod_eq_emod_of_nonneg h2
  have h4 := Int.emod_nonneg (n.tmod L + L) (show (L : Int) ≠ 0 by omega)
  have h5 := Int.emod_lt_of_pos (n.tmod L + L) (show (0 : Int) < L by omega)
  refine ⟨((n.tmod L + L) % (L : Int)).toNat, by omega, ?_⟩
  rw [e, h3]
  show _ = ((_ : Nat) : Int)
  omega

theorem tmod_bound (n : Int) {L : Nat} (hL : 0 < L) : -(L : Int) < n.tmod (Int.ofNat L) ∧ n.tmod (Int.ofNat L) < L := by
  have e : Int.ofNat L = (L : Int) := rfl
  rw [e]
  exact ⟨Int.lt_tmod_of_pos n (by omega), Int.tmod_lt_of_pos n (by omega)⟩

/-- A loop that counts. -/
theorem w_count {T : Nat → Option AFunc} {O : CallF} {vs : List V} {h : Heap} {id : Nat} {b : AC} {N R : Pred2} {E : List (Nat × Pred2)} (I : Nat → Pred2) (n : Nat) (h0 : I 0 vs h)
    (hs : ∀ j vs h, j ≤ n → I j vs h → WPx T O b vs h (fun vs h => j < n ∧ I (j + 1) vs h) ((id, N) :: E) R) : WPx T O (.block id (.loop b)) vs h N E R := by
  refine w_block (w_loop (fun m vs h => ∃ j, j ≤ n ∧ m = n - j ∧ I j vs h) ?_ n vs h ⟨0, Nat.zero_le _, rfl, h0⟩)
  rintro m vs h ⟨j, hj, rfl, hI⟩
  exact (hs j vs h hj hI).mono (fun vs h ⟨h1, h2⟩ => ⟨n - (j + 1), by omega, j + 1, by omega, rfl, h2⟩) fun _ _ x => x

/-- Index times size, at a slot's pointer. -/
theorem wrap_i64_of {a : Int} (h : -9223372036854775808 ≤ a) (h2 : a ≤ 9223372036854775807) : IntKind.i64.wrap a = a := by
  simp only [IntKind.wrap, IntKind.signed, IntKind.bits, Bool.true_and, ge_iff_le, decide_eq_true_eq]
  split <;> omega

def InsC (c : List V) : Prop := ∃ o a b, c = [.int .u8 o, .int .i64 a, .int .i64 b]
def FnC (h : Heap) (c : List V) : Prop := ∃ nm p vs cs code, c = [.str nm, .int .i64 p, .int .i64 vs, cs] ∧ RS h 3 cs code ∧ (∀ i ∈ code, InsC i) ∧ code.length ≤ 2097152
def OnC (c : List V) : Prop := ∃ t p f, c = [.str t, .int .i64 p, .int .i64 f]
def PartC (h : Heap) (c : List V) : Prop := ∃ nm p os l, c = [.str nm, .int .i64 p, os] ∧ RS h 3 os l ∧ (∀ o ∈ l, OnC o) ∧ l.length ≤ 2097152
def ModC (h : Heap) (c : List V) : Prop := ∃ cs ts fs rs lc lt lf lr, c = [cs, ts, fs, rs] ∧ RS h 4 cs lc ∧ RS h 1 ts lt ∧ RS h 4 fs lf ∧ RS h 3 rs lr ∧ (∀ f ∈ lf, FnC h f) ∧ (∀ r ∈ lr, PartC h r) ∧
  lf.length ≤ 2097152 ∧ lr.length ≤ 2097152

theorem FnC.ext {h h' : Heap} (hE : Ext h h') {c : List V} (k : FnC h c) : FnC h' c := by
  obtain ⟨nm, p, vs, cs, code, e, hr, hc⟩ := k
  exact ⟨nm, p, vs, cs, code, e, hr.ext0 hE, hc⟩
theorem PartC.ext {h h' : Heap} (hE : Ext h h') {c : List V} (k : PartC h c) : PartC h' c := by
  obtain ⟨nm, p, os, l, e, hr, hc⟩ := k
  exact ⟨nm, p, os, l, e, hr.ext0 hE, hc⟩
theorem ModC.ext {h h' : Heap} (hE : Ext h h') {c : List V} (k : ModC h c) : ModC h' c := by
  obtain ⟨cs, ts, fs, rs, lc, lt, lf, lr, e, h1, h2, h3, h4, h5, h6, h7⟩ := k
  exact ⟨cs, ts, fs, rs, lc, lt, lf, lr, e, h1.ext0 hE, h2.ext0 hE, h3.ext0 hE, h4.ext0 hE, fun f hf => (h5 f hf).ext hE, fun r hr => (h6 r hr).ext hE, h7⟩

theorem wrap_u64_range (n : Int) : 0 ≤ IntKind.u64.wrap n ∧ IntKind.u64.wrap n < 18446744073709551616 := by
  simp only [IntKind.wrap, IntKind.signed, IntKind.bits, Bool.false_and, Bool.false_eq_true, if_false]
  omega

theorem isSl_one {v : V} (h : isSl v = true) : v.one = true := by cases v <;> first | rfl | cases h
theorem RS.one {h : Heap} {esz : Nat} {v : V} {l : List (List V)} (k : RS h esz v l) : v.one = true := isSl_one k.2.1

end Am

/-
  Steps for a string's byte, a quotient, an empty map.
-/
namespace Am
open Go
set_option linter.unusedSimpArgs false
set_option linter.unusedVariables false
variable {T : Nat → Option AFunc} {O : CallF} {vs ls : List V} {h : Heap} {Q : List V → Heap → Prop} {os : List AOp}

theorem w_idxS {x i : Opd} {s : List UInt8} {k : IntKind} {j : Nat} (hx : ev ls vs x = some (.str s)) (hi : ev ls vs i = some (.int k (.ofNat j))) (hj : j < s.length) (k1 : WPo T O os (.int .u8 (Int.ofNat s[j].toNat) :: ls) vs h Q) : WPo T O (⟨none, .idxS x i⟩ :: os) ls vs h Q := by
  refine w_op (v := .int .u8 (Int.ofNat s[j].toNat)) (h1 := h) ?_ k1
  show o_idxS x i ls vs h = _
  simp only [o_idxS, hx, hi, natOf, nth_eq, List.getElem?_eq_getElem hj]

theorem w_callA {f : Nat} {args : List Opd} (argv : List V) (e : evs ls vs args = some argv) (k1 : WPc T O f argv h (fun v h1 => WPo T O os (v :: ls) vs h1 Q)) : WPo T O (⟨none, .call f args⟩ :: os) ls vs h Q := w_call e k1

end Am

/-
  Steps through a region behind an open truth: both ways, and what they share.
-/
namespace Am
open Go
set_option linter.unusedSimpArgs false
set_option linter.unusedVariables false

structure WPt (os : List AOp) (ls vs : List V) (h : Heap) (Q : List V → Heap → List Nat → Prop) : Prop where
  out : ∃ ls' h' t, runOpsT os ls vs h = some (ls', h', t) ∧ Q ls' h' t
structure WPxt (a : AC) (vs : List V) (h : Heap) (Q : List V → Heap → List Nat → Prop) : Prop where
  out : ∃ vs' h' t, xT a vs h = some (vs', h', t) ∧ Q vs' h' t

section rules
variable {T : Nat → Option AFunc} {O : CallF} {vs ls : List V} {h : Heap} {Q : List V → Heap → List Nat → Prop} {os : List AOp} {N R : Pred2} {E : List (Nat × Pred2)}

end rules
end Am

/-
  Parts of slices.
-/
namespace Am
open Go
set_option linter.unusedSimpArgs false
set_option linter.unusedVariables false

theorem flatten_drop {esz : Nat} : ∀ {l : List (List V)} (k : Nat), (∀ c ∈ l, c.length = esz) → (l.drop k).flatten = l.flatten.drop (k * esz)
  | [], k, _ => by simp
  | c :: l, 0, _ => by simp
  | c :: l, k + 1, h => by
    rw [List.drop_succ_cons, flatten_drop k fun a ha => h a (by simp [ha]), List.flatten_cons, show (k + 1) * esz = c.length + k * esz by rw [h c (by simp), Nat.add_mul]; omega, List.drop_append, List.drop_of_length_le (show c.length ≤ c.length + k * esz by omega), Nat.add_sub_cancel_left, List.nil_append]
theorem flatten_take {esz : Nat} : ∀ {l : List (List V)} (k : Nat), (∀ c ∈ l, c.length = esz) → (l.take k).flatten = l.flatten.take (k * esz)
  | [], k, _ => by simp
  | c :: l, 0, _ => by simp
  | c :: l, k + 1, h => by
    rw [List.take_succ_cons, List.flatten_cons, flatten_take k fun a ha => h a (by simp [ha]), List.flatten_cons, show (k + 1) * esz = c.length + k * esz by rw [h c (by simp), Nat.add_mul]; omega, List.take_append, List.take_of_length_le (show c.length ≤ c.length + k * esz by omega), Nat.add_sub_cancel_left]

theorem slV_ok {h : Heap} {esz : Nat} {v : V} {l : List (List V)} {lo hi : Option V} {a b : Nat} (ho : Ow h esz v l) (hb : bnds l.length lo hi none = some (a, b, none)) (hab : a ≤ b) (hbl : b ≤ l.length) :
    ∃ v', slV esz v lo hi none = some v' ∧ Ow h esz v' ((l.take b).drop a) ∧ ∀ j ∈ slIds v', j ∈ slIds v := by
  rcases ho.2 with rfl | ⟨id, off, len, ver, full, cs, low, rfl, hg⟩
  · have hl0 : l = [] := by
      have := ho.1.1
      simp only [srcCells, Option.some.injEq, Prod.mk.injEq] at this
      exact List.eq_nil_of_length_eq_zero this.1.symm
    subst hl0
    simp only [List.length_nil] at hb
    refine ⟨.nils, by simp only [slV, hb], ?_, fun _ h => h⟩
    simp only [List.take_nil, List.drop_nil]
    exact Ow.nils _ _
  · obtain ⟨e1, _, e3, e4⟩ := ho.1
    simp only [srcCells, hg] at e1
    split at e1
    · rename_i hgd
      simp only [Bool.and_eq_true, nbeq] at hgd
      simp only [Option.some.injEq, Prod.mk.injEq] at e1
      obtain ⟨rfl, e1⟩ := e1
      have hgl := good_len hgd.1
      have hbe : Nat.beq esz esz = true := nbeq.2 rfl
      have hm1 : b * esz ≤ l.length * esz := Nat.mul_le_mul_right esz hbl
      have hm2 : a * esz + (b - a) * esz = b * esz := by rw [← Nat.add_mul]; congr 1; omega
      have hln : ((l.take b).drop a).length = b - a := by rw [List.length_drop, List.length_take]; omega
      refine ⟨.sl id (off + a * esz) (b - a) ver esz (fullOf none b l.length full), by simp only [slV, hbe, hb], ⟨⟨?_, rfl, e3, fun c hc => e4 c (List.mem_of_mem_take (List.mem_of_mem_drop hc))⟩, .inr ⟨id, _, _, ver, _, cs, low, rfl, hg⟩⟩, fun _ h => h⟩
      simp only [srcCells, hg, hln]
      rw [good_refl (by omega), hbe]
      simp only [Bool.and_self, Option.some.injEq, Prod.mk.injEq, true_and]
      rw [flatten_drop a fun c hc => e4 c (List.mem_of_mem_take hc), flatten_take b e4, ← e1, List.take_take, Nat.min_eq_left hm1, ← List.drop_drop]
      rw [List.drop_take]
      congr 1
      omega
    · cases e1

section rules
variable {T : Nat → Option AFunc} {O : CallF} {vs ls : List V} {h : Heap} {Q : List V → Heap → Prop} {os : List AOp}

/-- Up to a place. -/
theorem w_slHi {esz k : Nat} {x i : Opd} {kk : IntKind} {v : V} {l : List (List V)} (hx : ev ls vs x = some v) (hi : ev ls vs i = some (.int kk (.ofNat k))) (ho : Ow h esz v l) (hk : k ≤ l.length)
    (k1 : ∀ v', Ow h esz v' (l.take k) → (∀ j ∈ slIds v', j ∈ slIds v) → WPo T O os (v' :: ls) vs h Q) : WPo T O (⟨none, .slL esz x none (some i) none⟩ :: os) ls vs h Q := by
  obtain ⟨v', e1, e2, e3⟩ := slV_ok (lo := none) (hi := some (.int kk (.ofNat k))) (a := 0) (b := k) ho (by
    have b1 : Nat.ble k l.length = true := nble.2 hk
    have b2 : Nat.ble 0 k = true := nble.2 (Nat.zero_le _)
    simp only [bnds, natOf, b1, Option.getD_none, b2, Bool.and_self]) (Nat.zero_le _) hk
  rw [List.drop_zero] at e2
  refine w_op (v := v') (h1 := h) ?_ (k1 v' e2 e3)
  show o_slL esz x none (some i) none ls vs h = _
  simp only [o_slL, hx, evo, hi, e1, keep]
end rules
end Am

/-
  Products of 64 bits: the upper and the lower half; when a signed product is too great.
-/
namespace Am
open Go
set_option linter.unusedSimpArgs false
set_option linter.unusedVariables false

theorem wrap_u64 (x : Int) : IntKind.u64.wrap x = x % 18446744073709551616 := by
  simp only [IntKind.wrap, IntKind.signed, IntKind.bits, Bool.false_and, Bool.false_eq_true, if_false]
  rfl
theorem wrap_i64_eq (x : Int) : IntKind.i64.wrap x = if x % 18446744073709551616 ≥ 9223372036854775808 then x % 18446744073709551616 - 18446744073709551616 else x % 18446744073709551616 := by
  simp only [IntKind.wrap, IntKind.signed, IntKind.bits, Bool.true_and, ge_iff_le, decide_eq_true_eq]
  rfl

section rules
variable {T : Nat → Option AFunc} {O : CallF} {vs ls : List V} {h : Heap} {Q : List V → Heap → Prop} {os : List AOp} {q : EqK} {x y : Opd} {a b : Int}

theorem w_subW (hx : ev ls vs x = some (.int .i64 a)) (hy : ev ls vs y = some (.int .i64 b)) (k1 : WPo T O os (.int .i64 (IntKind.i64.wrap (a - b)) :: ls) vs h Q) : WPo T O (⟨none, .bin .sub q x y⟩ :: os) ls vs h Q :=
  w_op (o_bin_v hx hy (by simp only [binV, if_true, intBin])) k1
end rules
/-- A load of an object of one's own, by its place. -/
theorem w_fl {T : Nat → Option AFunc} {O : CallF} {vs ls : List V} {h : Heap} {Q : List V → Heap → Prop} {os : List AOp} {d hi id : Nat} {x : Opd} {cs : List V} {v : V} (hx : ev ls vs x = some (.ptr id d 0 hi)) (ho : Own h id cs) (hv : nth cs d = some v) (hd : Nat.blt d hi = true) (hl : cs.length = hi)
    (k1 : WPo T O os (v :: ls) vs h Q) : WPo T O (⟨none, .load false 1 x⟩ :: os) ls vs h Q := by
  have hd := nblt.1 hd
  have hA := (ho.at hl).fadr (d := d) (by omega)
  have hc : cs.drop d = v :: cs.drop (d + 1) := by
    rw [nth_eq] at hv
    obtain ⟨h1, h2⟩ := List.getElem?_eq_some_iff.1 hv
    rw [List.drop_eq_getElem_cons h1, h2]
  rw [hc] at hA
  have e : V.ptr id d 0 hi = padd (.ptr id 0 0 hi) d := by simp only [padd, Nat.zero_add]
  exact w_load1 (p := padd (.ptr id 0 0 hi) d) (by rw [hx, e]) hA rfl k1
end Am

/-
  Numbers' bytes, and what is put together of them: what is written is read again, and what is read is written again.
-/
namespace Am
set_option linter.unusedSimpArgs false
set_option linter.unusedVariables false

/-- A number's bytes. -/
def encU : Nat → Nat → List Nat
  | 0, n => [n]
  | k + 1, n => if n < 128 then [n] else (n % 128 + 128) :: encU k (n / 128)

/-- A number of bytes, and what is behind them. -/
def dU : Nat → Bool → List Nat → Option (Nat × List Nat)
  | 0, _, [] => none
  | _ + 1, _, [] => none
  | 0, fst, x :: r => if 1 < x ∨ (x = 0 ∧ fst = false) then none else some (x, r)
  | k + 1, fst, x :: r => if x = 0 ∧ fst = false then none else if x < 128 then some (x, r) else
    match dU k false r with
    | some (m, r') => some (x - 128 + 128 * m, r')
    | none => none

theorem dU_nil (k : Nat) (f : Bool) : dU k f [] = none := by cases k <;> rfl

theorem dU_enc : ∀ (k n : Nat) (f : Bool) (r : List Nat), n < 128 ^ k * 2 → (f = true ∨ n ≠ 0) → dU k f (encU k n ++ r) = some (n, r)
  | 0, n, f, r, h, hf => by
    simp only [encU, List.cons_append, List.nil_append, dU]
    rw [if_neg]
    rintro (h1 | ⟨h1, h2⟩)
    · simp at h; omega
    · rcases hf with hf | hf
      · rw [hf] at h2; cases h2
      · exact hf h1
  | k + 1, n, f, r, h, hf => by
    unfold encU
    by_cases hn : n < 128
    · rw [if_pos hn]
      simp only [List.cons_append, List.nil_append, dU]
      rw [if_neg, if_pos hn]
      rintro ⟨h1, h2⟩
      rcases hf with hf | hf
      · rw [hf] at h2; cases h2
      · exact hf h1
    · rw [if_neg hn]
      simp only [List.cons_append, dU]
      have hk : n / 128 < 128 ^ k * 2 := by
        rw [Nat.pow_succ] at h
        omega
      rw [if_neg (by omega), if_neg (by omega), dU_enc k (n / 128) false r hk (.inr (by omega))]
      simp only [Option.some.injEq, Prod.mk.injEq, and_true]
      omega

theorem dU_dec : ∀ (k : Nat) (f : Bool) (l : List Nat) (n : Nat) (r : List Nat), (∀ x ∈ l, x < 256) → dU k f l = some (n, r) → l = encU k n ++ r ∧ n < 128 ^ k * 2 ∧ (f = false → n ≠ 0)
  | k, f, [], n, r, _, h => by rw [dU_nil] at h; cases h
  | 0, f, x :: l, n, r, hb, h => by
    simp only [dU] at h
    split at h
    · cases h
    · rename_i hc
      simp only [Option.some.injEq, Prod.mk.injEq] at h
      obtain ⟨rfl, rfl⟩ := h
      exact ⟨rfl, by simp; omega, fun hf e => hc (.inr ⟨e, hf⟩)⟩
  | k + 1, f, x :: l, n, r, hb, h => by
    simp only [dU] at h
    split at h
    · cases h
    · rename_i hc
      split at h
      · rename_i hx
        simp only [Option.some.injEq, Prod.mk.injEq] at h
        obtain ⟨rfl, rfl⟩ := h
        have hp : 0 < 128 ^ k := Nat.pow_pos (by decide)
        exact ⟨by simp [encU, hx], by rw [Nat.pow_succ]; omega, fun hf e => hc ⟨e, hf⟩⟩
      · rename_i hx
        split at h
        · rename_i m r' hd
          simp only [Option.some.injEq, Prod.mk.injEq] at h
          obtain ⟨rfl, rfl⟩ := h
          obtain ⟨h1, h2, h3⟩ := dU_dec k false l m r' (fun y hy => hb y (by simp [hy])) hd
          have h3 := h3 rfl
          have hx2 := hb x (by simp)
          refine ⟨?_, by rw [Nat.pow_succ]; omega, by omega⟩
          rw [encU, if_neg (by omega), show (x - 128 + 128 * m) % 128 + 128 = x by omega, show (x - 128 + 128 * m) / 128 = m by omega, h1]
          rfl
        · cases h

theorem encU_byte : ∀ (k n : Nat), n < 128 ^ k * 2 → ∀ x ∈ encU k n, x < 256
  | 0, n, h, x, hx => by simp [encU] at hx; simp at h; omega
  | k + 1, n, h, x, hx => by
    unfold encU at hx
    split at hx
    · simp at hx; omega
    · rcases List.mem_cons.1 hx with rfl | hx
      · omega
      · refine encU_byte k (n / 128) ?_ x hx
        rw [Nat.pow_succ] at h
        omega

theorem encU_len : ∀ (k n : Nat), 1 ≤ (encU k n).length ∧ (encU k n).length ≤ k + 1
  | 0, _ => by simp [encU]
  | k + 1, n => by
    unfold encU
    split
    · simp
    · have := encU_len k (n / 128); simp; omega

abbrev Bytes (l : List Nat) : Prop := ∀ x ∈ l, x < 256

/-- How a thing is written and read. -/
structure Cod (α : Type) where
  enc : α → List Nat
  dec : List Nat → Option (α × List Nat)
  ok : α → Prop
  byt : ∀ a, ok a → Bytes (enc a)
  ed : ∀ a r, ok a → dec (enc a ++ r) = some (a, r)
  de : ∀ l a r, Bytes l → dec l = some (a, r) → ok a ∧ l = enc a ++ r

theorem Bytes.right {a b : List Nat} (h : Bytes (a ++ b)) : Bytes b := fun x hx => h x (by simp [hx])
theorem Bytes.append {a b : List Nat} (h : Bytes a) (k : Bytes b) : Bytes (a ++ b) := fun x hx => (List.mem_append.1 hx).elim (h x) (k x)

theorem Cod.len {α : Type} (c : Cod α) {l : List Nat} {a : α} {r : List Nat} (h : Bytes l) (e : c.dec l = some (a, r)) : r.length ≤ l.length := by
  obtain ⟨_, rfl⟩ := c.de l a r h e
  simp

/-- What is read, made something of. -/
def dMap {α β : Type} (f : α → Option β) : Option (α × List Nat) → Option (β × List Nat)
  | none => none
  | some (a, r) => match f a with
    | none => none
    | some b => some (b, r)

/-- A number from 0 to the most. -/
def cNum (most : Nat) (hm : most < 18446744073709551616) : Cod Int where
  enc a := encU 9 a.toNat
  dec l := dMap (fun n => if n ≤ most then some (Int.ofNat n) else none) (dU 9 true l)
  ok a := 0 ≤ a ∧ a ≤ Int.ofNat most
  byt a h := encU_byte 9 a.toNat (by have := h.2; have e : Int.ofNat most = (most : Int) := rfl; simp; omega)
  ed a r h := by
    have e : Int.ofNat most = (most : Int) := rfl
    rw [dU_enc 9 a.toNat true r (by simp; omega) (.inl rfl)]
    simp only [dMap]
    rw [if_pos (by omega)]
    simp only [Option.some.injEq, Prod.mk.injEq, and_true]
    show ((a.toNat : Nat) : Int) = a
    omega
  de l a r hb h := by
    cases hd : dU 9 true l with
    | none => rw [hd] at h; cases h
    | some x =>
      obtain ⟨n, r'⟩ := x
      rw [hd] at h
      simp only [dMap] at h
      by_cases hn : n ≤ most
      · rw [if_pos hn] at h
        simp only [Option.some.injEq, Prod.mk.injEq] at h
        obtain ⟨rfl, rfl⟩ := h
        obtain ⟨h1, h2, _⟩ := dU_dec 9 true l n r' hb hd
        refine ⟨⟨Int.natCast_nonneg n, Int.ofNat_le.2 hn⟩, ?_⟩
        rw [h1]; rfl
      · rw [if_neg hn] at h; cases h

/-- A signed number as one without a sign. -/
def zig (e : Int) : Nat := if e < 0 then (-2 * e - 1).toNat else (2 * e).toNat
def zag (n : Nat) : Int := if n % 2 = 0 then Int.ofNat (n / 2) else -(Int.ofNat (n / 2)) - 1

theorem zag_zig (e : Int) : zag (zig e) = e := by
  unfold zag zig
  have c : ∀ n : Nat, Int.ofNat n = (n : Int) := fun _ => rfl
  simp only [c]
  split <;> split <;> omega
theorem zig_zag (n : Nat) : zig (zag n) = n := by
  unfold zag zig
  have c : ∀ n : Nat, Int.ofNat n = (n : Int) := fun _ => rfl
  simp only [c]
  split <;> split <;> omega

/-- One behind the other. -/
def dSeq {α β : Type} (f : List Nat → Option (α × List Nat)) (g : List Nat → Option (β × List Nat)) (l : List Nat) : Option ((α × β) × List Nat) :=
  match f l with
  | none => none
  | some (a, r) => match g r with
    | none => none
    | some (b, r') => some ((a, b), r')

def cSeq {α β : Type} (c : Cod α) (d : Cod β) : Cod (α × β) where
  enc x := c.enc x.1 ++ d.enc x.2
  dec := dSeq c.dec d.dec
  ok x := c.ok x.1 ∧ d.ok x.2
  byt x h := (c.byt _ h.1).append (d.byt _ h.2)
  ed x r h := by
    simp only [dSeq, List.append_assoc, c.ed x.1 _ h.1, d.ed x.2 r h.2]
  de l x r hb h := by
    simp only [dSeq] at h
    cases h1 : c.dec l with
    | none => rw [h1] at h; cases h
    | some y =>
      obtain ⟨a, r1⟩ := y
      rw [h1] at h
      simp only at h
      cases h2 : d.dec r1 with
      | none => rw [h2] at h; cases h
      | some z =>
        obtain ⟨b, r2⟩ := z
        rw [h2] at h
        simp only [Option.some.injEq, Prod.mk.injEq] at h
        obtain ⟨rfl, rfl⟩ := h
        obtain ⟨k1, rfl⟩ := c.de l a r1 hb h1
        obtain ⟨k2, rfl⟩ := d.de r1 b r2 hb.right h2
        exact ⟨⟨k1, k2⟩, by simp⟩

/-- So many of them. -/
def encL {α : Type} (f : α → List Nat) : List α → List Nat
  | [] => []
  | a :: l => f a ++ encL f l
def dRep {α : Type} (f : List Nat → Option (α × List Nat)) : Nat → List Nat → Option (List α × List Nat)
  | 0, l => some ([], l)
  | n + 1, l => match f l with
    | none => none
    | some (a, r) => match dRep f n r with
      | none => none
      | some (as, r') => some (a :: as, r')

theorem encL_append {α : Type} (f : α → List Nat) : ∀ (a b : List α), encL f (a ++ b) = encL f a ++ encL f b
  | [], b => rfl
  | x :: a, b => by simp only [List.cons_append, encL, encL_append f a b, List.append_assoc]

theorem dRep_enc {α : Type} (c : Cod α) : ∀ (l : List α) (r : List Nat), (∀ a ∈ l, c.ok a) → dRep c.dec l.length (encL c.enc l ++ r) = some (l, r)
  | [], r, _ => rfl
  | a :: l, r, h => by
    simp only [List.length_cons, encL, dRep, List.append_assoc, c.ed a _ (h a (by simp)), dRep_enc c l r fun x hx => h x (by simp [hx])]

theorem dRep_dec {α : Type} (c : Cod α) : ∀ (n : Nat) (l : List Nat) (as : List α) (r : List Nat), Bytes l → dRep c.dec n l = some (as, r) → as.length = n ∧ (∀ a ∈ as, c.ok a) ∧ l = encL c.enc as ++ r
  | 0, l, as, r, _, h => by
    simp only [dRep, Option.some.injEq, Prod.mk.injEq] at h
    obtain ⟨rfl, rfl⟩ := h
    exact ⟨rfl, by simp, rfl⟩
  | n + 1, l, as, r, hb, h => by
    simp only [dRep] at h
    cases h1 : c.dec l with
    | none => rw [h1] at h; cases h
    | some y =>
      obtain ⟨a, r1⟩ := y
      rw [h1] at h
      simp only at h
      cases h2 : dRep c.dec n r1 with
      | none => rw [h2] at h; cases h
      | some z =>
        obtain ⟨bs, r2⟩ := z
        rw [h2] at h
        simp only [Option.some.injEq, Prod.mk.injEq] at h
        obtain ⟨rfl, rfl⟩ := h
        obtain ⟨k1, rfl⟩ := c.de l a r1 hb h1
        obtain ⟨k2, k3, rfl⟩ := dRep_dec c n r1 bs r2 hb.right h2
        refine ⟨by simp [k2], fun x hx => ?_, by simp [encL]⟩
        rcases List.mem_cons.1 hx with rfl | hx
        · exact k1
        · exact k3 x hx

/-- A list: how many, and each. -/
def cList {α : Type} (c : Cod α) (most : Nat) (hm : most < 18446744073709551616) : Cod (List α) where
  enc l := encU 9 l.length ++ encL c.enc l
  dec l := match (cNum most hm).dec l with
    | none => none
    | some (n, r) => dRep c.dec n.toNat r
  ok l := l.length ≤ most ∧ ∀ a ∈ l, c.ok a
  byt l h := by
    refine Bytes.append (encU_byte 9 l.length (by have := h.1; simp; omega)) ?_
    have h2 := h.2
    clear h
    induction l with
    | nil => intro x hx; cases hx
    | cons a l ih => exact (c.byt a (h2 a (by simp))).append (ih fun x hx => h2 x (by simp [hx]))
  ed l r h := by
    have h1 := (cNum most hm).ed (Int.ofNat l.length) (encL c.enc l ++ r) ⟨Int.natCast_nonneg _, Int.ofNat_le.2 h.1⟩
    rw [show (cNum most hm).enc (Int.ofNat l.length) = encU 9 l.length from rfl, ← List.append_assoc] at h1
    simp only [h1]
    exact dRep_enc c l r h.2
  de l as r hb h := by
    cases h1 : (cNum most hm).dec l with
    | none => simp only [h1] at h; cases h
    | some y =>
      obtain ⟨n, r1⟩ := y
      simp only [h1] at h
      obtain ⟨k1, rfl⟩ := (cNum most hm).de l n r1 hb h1
      obtain ⟨k2, k3, rfl⟩ := dRep_dec c n.toNat r1 as r hb.right h
      have k4 : 0 ≤ n := k1.1
      have k5 : n ≤ Int.ofNat most := k1.2
      have e : Int.ofNat most = (most : Int) := rfl
      refine ⟨⟨by omega, k3⟩, ?_⟩
      rw [show (cNum most hm).enc n = encU 9 n.toNat from rfl, k2, List.append_assoc]

/-- The bytes of a thing are one thing's: none of its beginnings is read whole, nor what has one byte more. -/
theorem Cod.cut {α : Type} (c : Cod α) {a b : α} {k : Nat} (h : c.ok a) (hk : k < (c.enc a).length) : c.dec ((c.enc a).take k) ≠ some (b, []) := by
  intro e
  obtain ⟨h1, h2⟩ := c.de _ _ _ (fun x hx => c.byt a h x (List.mem_of_mem_take hx)) e
  rw [List.append_nil] at h2
  have h3 := c.ed b ((c.enc a).drop k) h1
  rw [← h2, List.take_append_drop] at h3
  have h4 := c.ed a [] h
  rw [List.append_nil, h3] at h4
  simp only [Option.some.injEq, Prod.mk.injEq] at h4
  have h5 := congrArg List.length h4.2
  simp at h5
  omega
theorem Cod.more {α : Type} (c : Cod α) {a b : α} {x : Nat} {r : List Nat} (h : c.ok a) : c.dec (c.enc a ++ x :: r) ≠ some (b, []) := by
  rw [c.ed a _ h]
  simp
theorem Cod.inj {α : Type} (c : Cod α) {a b : α} (h : c.ok a) (k : c.ok b) : c.enc a = c.enc b ↔ a = b := by
  refine ⟨fun e => ?_, fun e => by rw [e]⟩
  have h1 := c.ed a [] h
  have h2 := c.ed b [] k
  rw [e, h2] at h1
  simp only [Option.some.injEq, Prod.mk.injEq, and_true] at h1
  exact h1.symm
end Am

/-
  Speculative code as data: its bytes, and where it lies.
-/
namespace Am
open Go
set_option linter.unusedSimpArgs false
set_option linter.unusedVariables false

def intC (a : Int) : List V := [.int .i64 a]
def byteC (n : Nat) : List V := [.int .u8 (.ofNat n)]

abbrev SpecA := Int × Int × Int × Int × Int × Int × Int
abbrev BackA := Int × Int × List Int × List Int
abbrev NeedA := Int × Int
abbrev FastA := Int × Int × List SpecA × List (List BackA) × List NeedA

def specC (s : SpecA) : List V := [.int .u8 s.1, .int .i64 s.2.1, .int .i64 s.2.2.1, .int .i64 s.2.2.2.1, .int .i64 s.2.2.2.2.1, .int .i64 s.2.2.2.2.2.1, .int .i64 s.2.2.2.2.2.2]
def needC (n : NeedA) : List V := [.int .i64 n.1, .int .u32 n.2]

/-- One by one. -/
def All2 {α β : Type} (R : α → β → Prop) (a : List α) (b : List β) : Prop := a.length = b.length ∧ ∀ (i : Nat) (x : α) (y : β), a[i]? = some x → b[i]? = some y → R x y

theorem All2.nil {α β : Type} (R : α → β → Prop) : All2 R [] [] := ⟨rfl, by simp⟩
theorem All2.push {α β : Type} {R : α → β → Prop} {a : List α} {b : List β} {x : α} {y : β} (h : All2 R a b) (k : R x y) : All2 R (a ++ [x]) (b ++ [y]) := by
  refine ⟨by simp [h.1], fun i u v hu hv => ?_⟩
  by_cases hi : i < a.length
  · rw [List.getElem?_append_left hi] at hu
    rw [List.getElem?_append_left (by have := h.1; omega)] at hv
    exact h.2 i u v hu hv
  · have hi2 : i < (a ++ [x]).length := (List.getElem?_eq_some_iff.1 hu).1
    have : i = a.length := by simp at hi2; omega
    subst this
    simp at hu
    rw [h.1] at hv
    simp at hv
    subst hu hv
    exact k
theorem All2.mono {α β : Type} {R R' : α → β → Prop} {a : List α} {b : List β} (h : All2 R a b) (k : ∀ x y, x ∈ a → y ∈ b → R x y → R' x y) : All2 R' a b :=
  ⟨h.1, fun i x y hx hy => k x y (List.mem_of_getElem? hx) (List.mem_of_getElem? hy) (h.2 i x y hx hy)⟩
theorem All2.get {α β : Type} {R : α → β → Prop} {a : List α} {b : List β} (h : All2 R a b) {i : Nat} (hi : i < a.length) (hj : i < b.length) : R a[i] b[i] :=
  h.2 i _ _ (List.getElem?_eq_getElem hi) (List.getElem?_eq_getElem hj)

/-- A slice of which nothing turns any more: its object is one of 'Z'. -/
def RSz (Z : Nat → Prop) (h : Heap) (esz : Nat) (v : V) (l : List (List V)) : Prop := RS h esz v l ∧ ∀ j ∈ slIds v, Z j

theorem RSz.ext {Z Z' : Nat → Prop} {S : List Nat} {h h' : Heap} {esz : Nat} {v : V} {l : List (List V)} (k : RSz Z h esz v l) (hE : ExtX S h h') (hs : ∀ j, Z j → j ∉ S) (hz : ∀ j, Z j → Z' j) : RSz Z' h' esz v l :=
  ⟨k.1.ext hE fun id off len ver e f hv => hs id (k.2 id (by rw [hv]; simp [slIds])), fun j hj => hz j (k.2 j hj)⟩

def BackR (Z : Nat → Prop) (h : Heap) (c : List V) (b : BackA) : Prop := ∃ vv vs, c = [.int .i64 b.1, .int .i64 b.2.1, vv, vs] ∧ RSz Z h 1 vv (b.2.2.1.map intC) ∧ RSz Z h 1 vs (b.2.2.2.map intC)
def ExitR (Z : Nat → Prop) (h : Heap) (c : List V) (l : List BackA) : Prop := ∃ v lc, c = [v] ∧ RSz Z h 4 v lc ∧ All2 (BackR Z h) lc l
def FastR (Z : Nat → Prop) (h : Heap) (c : List V) (f : FastA) : Prop := ∃ vc ve vn le, c = [.int .i64 f.1, .int .i64 f.2.1, vc, ve, vn] ∧ RSz Z h 7 vc (f.2.2.1.map specC) ∧ RSz Z h 1 ve le ∧ All2 (ExitR Z h) le f.2.2.2.1 ∧ RSz Z h 2 vn (f.2.2.2.2.map needC)

section ext
variable {Z Z' : Nat → Prop} {S : List Nat} {h h' : Heap} {c : List V}
theorem BackR.ext {b : BackA} (k : BackR Z h c b) (hE : ExtX S h h') (hs : ∀ j, Z j → j ∉ S) (hz : ∀ j, Z j → Z' j) : BackR Z' h' c b := by
  obtain ⟨vv, vs, e, k1, k2⟩ := k
  exact ⟨vv, vs, e, k1.ext hE hs hz, k2.ext hE hs hz⟩
theorem ExitR.ext {b : List BackA} (k : ExitR Z h c b) (hE : ExtX S h h') (hs : ∀ j, Z j → j ∉ S) (hz : ∀ j, Z j → Z' j) : ExitR Z' h' c b := by
  obtain ⟨v, lc, e, k1, k2⟩ := k
  exact ⟨v, lc, e, k1.ext hE hs hz, k2.mono fun x y _ _ k => k.ext hE hs hz⟩
theorem FastR.ext {b : FastA} (k : FastR Z h c b) (hE : ExtX S h h') (hs : ∀ j, Z j → j ∉ S) (hz : ∀ j, Z j → Z' j) : FastR Z' h' c b := by
  obtain ⟨vc, ve, vn, le, e, k1, k2, k3, k4⟩ := k
  exact ⟨vc, ve, vn, le, e, k1.ext hE hs hz, k2.ext hE hs hz, k3.mono fun x y _ _ k => k.ext hE hs hz, k4.ext hE hs hz⟩
end ext

/-! ### Bytes of numbers -/
end Am

/-
  Bits of numbers: bytes of seven bits, put together and taken apart.
-/
namespace Am
open Go
set_option linter.unusedSimpArgs false
set_option linter.unusedVariables false

theorem wrap_u8 (x : Int) : IntKind.u8.wrap x = x % 256 := by
  simp only [IntKind.wrap, IntKind.signed, IntKind.bits, Bool.false_and, Bool.false_eq_true, if_false]
  rfl
theorem bits_and127 : ∀ x : Fin 256, IntKind.u8.wrap ((BitVec.ofInt 8 (Int.ofNat x.val) &&& BitVec.ofInt 8 127).toNat : Int) = Int.ofNat (x.val % 128) := by decide +kernel
theorem bits_or128 : ∀ x : Fin 256, IntKind.u8.wrap ((BitVec.ofInt 8 (Int.ofNat x.val) ||| BitVec.ofInt 8 128).toNat : Int) = Int.ofNat (x.val % 128 + 128) := by decide +kernel

theorem or_add {a y i : Nat} (ha : a < 2 ^ i) : a ||| (y * 2 ^ i) = a + y * 2 ^ i := by
  have h := Nat.shiftLeft_add_eq_or_of_lt ha y
  rw [Nat.shiftLeft_eq] at h
  rw [Nat.or_comm, ← h, Nat.add_comm]

theorem bits_or64 {a b : Nat} (ha : a < 18446744073709551616) (hb : b < 18446744073709551616) : IntKind.u64.wrap ((BitVec.ofInt 64 (Int.ofNat a) ||| BitVec.ofInt 64 (Int.ofNat b)).toNat : Int) = Int.ofNat (a ||| b) := by
  have e1 : BitVec.ofInt 64 (Int.ofNat a) = BitVec.ofNat 64 a := BitVec.ofInt_natCast 64 a
  have e2 : BitVec.ofInt 64 (Int.ofNat b) = BitVec.ofNat 64 b := BitVec.ofInt_natCast 64 b
  rw [e1, e2, wrap_u64, BitVec.toNat_or, BitVec.toNat_ofNat, BitVec.toNat_ofNat, Nat.mod_eq_of_lt (show a < 2 ^ 64 by omega), Nat.mod_eq_of_lt (show b < 2 ^ 64 by omega)]
  have h : a ||| b < 2 ^ 64 := Nat.or_lt_two_pow (by omega) (by omega)
  show ((a ||| b : Nat) : Int) % _ = ((a ||| b : Nat) : Int)
  omega

theorem bits_xor64 {a b : Nat} (ha : a < 18446744073709551616) (hb : b < 18446744073709551616) : IntKind.u64.wrap ((BitVec.ofInt 64 (Int.ofNat a) ^^^ BitVec.ofInt 64 (Int.ofNat b)).toNat : Int) = Int.ofNat (a ^^^ b) := by
  have e1 : BitVec.ofInt 64 (Int.ofNat a) = BitVec.ofNat 64 a := BitVec.ofInt_natCast 64 a
  have e2 : BitVec.ofInt 64 (Int.ofNat b) = BitVec.ofNat 64 b := BitVec.ofInt_natCast 64 b
  rw [e1, e2, wrap_u64, BitVec.toNat_xor, BitVec.toNat_ofNat, BitVec.toNat_ofNat, Nat.mod_eq_of_lt (show a < 2 ^ 64 by omega), Nat.mod_eq_of_lt (show b < 2 ^ 64 by omega)]
  have h : a ^^^ b < 2 ^ 64 := Nat.xor_lt_two_pow (by omega) (by omega)
  show ((a ^^^ b : Nat) : Int) % _ = ((a ^^^ b : Nat) : Int)
  omega

theorem bits_and1 {a : Nat} (ha : a < 18446744073709551616) : IntKind.u64.wrap ((BitVec.ofInt 64 (Int.ofNat a) &&& BitVec.ofInt 64 1).toNat : Int) = Int.ofNat (a % 2) := by
  have e1 : BitVec.ofInt 64 (Int.ofNat a) = BitVec.ofNat 64 a := BitVec.ofInt_natCast 64 a
  have e2 : BitVec.ofInt 64 1 = BitVec.ofNat 64 1 := rfl
  rw [e1, e2, wrap_u64, BitVec.toNat_and, BitVec.toNat_ofNat, BitVec.toNat_ofNat, Nat.mod_eq_of_lt (show a < 2 ^ 64 by omega), Nat.mod_eq_of_lt (show 1 < 2 ^ 64 by decide), Nat.and_one_is_mod]
  show ((a % 2 : Nat) : Int) % _ = ((a % 2 : Nat) : Int)
  omega
theorem bits_xor0 {a : Nat} (ha : a < 9223372036854775808) : IntKind.i64.wrap ((BitVec.ofInt 64 (Int.ofNat a) ^^^ BitVec.ofInt 64 0).toNat : Int) = Int.ofNat a := by
  have e1 : BitVec.ofInt 64 (Int.ofNat a) = BitVec.ofNat 64 a := BitVec.ofInt_natCast 64 a
  have e2 : BitVec.ofInt 64 0 = 0#64 := rfl
  rw [e1, e2, BitVec.xor_zero, BitVec.toNat_ofNat, Nat.mod_eq_of_lt (show a < 2 ^ 64 by omega)]
  exact wrap_i64_nat ha
theorem bits_xor1 {a : Nat} (ha : a < 9223372036854775808) : IntKind.i64.wrap ((BitVec.ofInt 64 (Int.ofNat a) ^^^ BitVec.ofInt 64 (-1)).toNat : Int) = -(Int.ofNat a) - 1 := by
  have e1 : BitVec.ofInt 64 (Int.ofNat a) = BitVec.ofNat 64 a := BitVec.ofInt_natCast 64 a
  have e2 : BitVec.ofInt 64 (-1) = BitVec.allOnes 64 := by decide +kernel
  rw [e1, e2, BitVec.xor_allOnes, BitVec.toNat_not, BitVec.toNat_ofNat, Nat.mod_eq_of_lt (show a < 2 ^ 64 by omega), wrap_i64_eq]
  have e3 : Int.ofNat a = (a : Int) := rfl
  rw [e3]
  split <;> omega

section rules
variable {T : Nat → Option AFunc} {O : CallF} {vs ls : List V} {h : Heap} {Q : List V → Heap → Prop} {os : List AOp} {q : EqK} {x y : Opd} {k : IntKind}

theorem w_and127 {a : Nat} (hx : ev ls vs x = some (.int .u8 (.ofNat a))) (hy : ev ls vs y = some (.int .u8 (.ofNat 127))) (ha : a < 256) (k1 : WPo T O os (.int .u8 (.ofNat (a % 128)) :: ls) vs h Q) : WPo T O (⟨none, .bin .and q x y⟩ :: os) ls vs h Q :=
  w_op (o_bin_v hx hy (by
    simp only [binV, if_true, intBin]
    exact congrArg (fun n => some (V.int .u8 n)) (bits_and127 ⟨a, ha⟩))) k1
theorem w_orD {a b i : Nat} (hx : ev ls vs x = some (.int .u64 (.ofNat a))) (hy : ev ls vs y = some (.int .u64 (.ofNat (b * 2 ^ i)))) (ha : a < 2 ^ i) (hi : a + b * 2 ^ i < 18446744073709551616) (k1 : WPo T O os (.int .u64 (.ofNat (a + b * 2 ^ i)) :: ls) vs h Q) : WPo T O (⟨none, .bin .or q x y⟩ :: os) ls vs h Q :=
  w_op (o_bin_v hx hy (by
    simp only [binV, if_true, intBin]
    have e := bits_or64 (a := a) (b := b * 2 ^ i) (by omega) (by omega)
    rw [or_add ha] at e
    exact congrArg (fun n => some (V.int .u64 n)) e)) k1
theorem w_shlN {a b : Nat} {k2 : IntKind} (hx : ev ls vs x = some (.int .u64 (.ofNat a))) (hy : ev ls vs y = some (.int k2 (.ofNat b))) (hb : b ≤ 64) (ha : a * 2 ^ b < 18446744073709551616) (k1 : WPo T O os (.int .u64 (.ofNat (a * 2 ^ b)) :: ls) vs h Q) : WPo T O (⟨none, .bin .shl q x y⟩ :: os) ls vs h Q :=
  w_op (o_bin_v hx hy (by
    simp only [binV]
    have h0 : ¬ (Int.ofNat b < 0) := by have : Int.ofNat b = (b : Int) := rfl; omega
    have h1 : min (Int.ofNat b).toNat IntKind.u64.bits = b := by
      have : (Int.ofNat b).toNat = b := rfl
      rw [this]; exact Nat.min_eq_left hb
    rw [if_neg h0, h1, wrap_u64]
    have h2 : Int.ofNat a * 2 ^ b = ((a * 2 ^ b : Nat) : Int) := by
      show (a : Int) * 2 ^ b = _
      rw [Int.natCast_mul, Int.natCast_pow]; rfl
    rw [h2]
    have h3 : ((a * 2 ^ b : Nat) : Int) % 18446744073709551616 = Int.ofNat (a * 2 ^ b) := by
      show _ = ((a * 2 ^ b : Nat) : Int)
      omega
    rw [h3])) k1
theorem w_mulN {a b : Nat} (hx : ev ls vs x = some (.int .i64 (.ofNat a))) (hy : ev ls vs y = some (.int .i64 (.ofNat b))) (hb : a * b < 9223372036854775808) (k1 : WPo T O os (.int .i64 (.ofNat (a * b)) :: ls) vs h Q) : WPo T O (⟨none, .bin .mul q x y⟩ :: os) ls vs h Q :=
  w_op (o_bin_v hx hy (by
    have e : Int.ofNat a * Int.ofNat b = Int.ofNat (a * b) := rfl
    simp only [binV, if_true, intBin, e, wrap_i64_nat hb])) k1
theorem w_and1 {a : Nat} (hx : ev ls vs x = some (.int .u64 (.ofNat a))) (hy : ev ls vs y = some (.int .u64 (.ofNat 1))) (ha : a < 18446744073709551616) (k1 : WPo T O os (.int .u64 (.ofNat (a % 2)) :: ls) vs h Q) : WPo T O (⟨none, .bin .and q x y⟩ :: os) ls vs h Q :=
  w_op (o_bin_v hx hy (by
    simp only [binV, if_true, intBin]
    exact congrArg (fun n => some (V.int .u64 n)) (bits_and1 ha))) k1
theorem w_shr1 {a : Nat} (hx : ev ls vs x = some (.int .u64 (.ofNat a))) (hy : ev ls vs y = some (.int .u64 (.ofNat 1))) (k1 : WPo T O os (.int .u64 (.ofNat (a / 2)) :: ls) vs h Q) : WPo T O (⟨none, .bin .shr q x y⟩ :: os) ls vs h Q :=
  w_op (o_bin_v hx hy (by
    simp only [binV]
    rw [if_neg (by decide)]
    have e : (Int.ofNat a).fdiv (2 ^ (min (Int.ofNat 1).toNat IntKind.u64.bits)) = Int.ofNat (a / 2) := by
      rw [Int.fdiv_eq_ediv_of_nonneg _ (by decide)]
      rfl
    rw [e])) k1
theorem w_xorI0 {a : Nat} (hx : ev ls vs x = some (.int .i64 (.ofNat a))) (hy : ev ls vs y = some (.int .i64 0)) (ha : a < 9223372036854775808) (k1 : WPo T O os (.int .i64 (.ofNat a) :: ls) vs h Q) : WPo T O (⟨none, .bin .xor q x y⟩ :: os) ls vs h Q :=
  w_op (o_bin_v hx hy (by
    simp only [binV, if_true, intBin]
    exact congrArg (fun n => some (V.int .i64 n)) (bits_xor0 ha))) k1
theorem w_xorI1 {a : Nat} (hx : ev ls vs x = some (.int .i64 (.ofNat a))) (hy : ev ls vs y = some (.int .i64 (-1))) (ha : a < 9223372036854775808) (k1 : WPo T O os (.int .i64 (-(Int.ofNat a) - 1) :: ls) vs h Q) : WPo T O (⟨none, .bin .xor q x y⟩ :: os) ls vs h Q :=
  w_op (o_bin_v hx hy (by
    simp only [binV, if_true, intBin]
    exact congrArg (fun n => some (V.int .i64 n)) (bits_xor1 ha))) k1

/-- An operation that reckons with no numbers. -/
def quietK : AK → Bool
  | .build _ _ => false
  | .mx _ _ => false
  | .mn _ _ => false
  | .bin _ _ _ _ => false
  | .toInt _ _ => false
  | _ => true
theorem w_opq {k : AK} {v : V} (hp : quietK k = true) (e : opv k ls vs h = some (v, h)) (k1 : WPo T O os (v :: ls) vs h Q) : WPo T O (⟨none, k⟩ :: os) ls vs h Q := w_op e k1
theorem w_toI {j : IntKind} {a b : Int} (hx : ev ls vs x = some (.int j a)) (hw : k.wrap a = b) (k1 : WPo T O os (.int k b :: ls) vs h Q) : WPo T O (⟨none, .toInt k x⟩ :: os) ls vs h Q := by
  subst hw
  refine w_op ?_ k1
  show o_toInt k x ls vs h = _
  simp only [o_toInt, hx]
end rules
end Am

/-
  A reader at work: how far it is, or that it failed.
-/
namespace Am
open Go
set_option linter.unusedSimpArgs false
set_option linter.unusedVariables false

/-- What is read behind what was read. -/
def aft {α : Type} (p : List Nat → Option (α × List Nat)) : Option (List Nat) → Option (α × List Nat)
  | none => none
  | some l => p l
def rst {α : Type} : Option (α × List Nat) → Option (List Nat)
  | none => none
  | some (_, r) => some r

theorem rst_seq {α β : Type} (c : Cod α) (d : Cod β) (σ : Option (List Nat)) : rst (aft (cSeq c d).dec σ) = rst (aft d.dec (rst (aft c.dec σ))) := by
  cases σ with
  | none => rfl
  | some l =>
    show rst (dSeq c.dec d.dec l) = rst (aft d.dec (rst (c.dec l)))
    unfold dSeq
    cases h : c.dec l with
    | none => rfl
    | some y =>
      obtain ⟨a, r⟩ := y
      show _ = rst (d.dec r)
      simp only
      cases d.dec r with
      | none => rfl
      | some z => rfl

theorem aft_seq {α β : Type} {c : Cod α} {d : Cod β} {σ : Option (List Nat)} {x : α × β} {l : List Nat} (h : aft (cSeq c d).dec σ = some (x, l)) : (∃ l1, aft c.dec σ = some (x.1, l1)) ∧ aft d.dec (rst (aft c.dec σ)) = some (x.2, l) := by
  cases σ with
  | none => cases h
  | some l0 =>
    have h : dSeq c.dec d.dec l0 = some (x, l) := h
    show (∃ l1, c.dec l0 = some (x.1, l1)) ∧ aft d.dec (rst (c.dec l0)) = some (x.2, l)
    unfold dSeq at h
    cases h1 : c.dec l0 with
    | none => rw [h1] at h; cases h
    | some y =>
      obtain ⟨a, r⟩ := y
      rw [h1] at h
      simp only at h
      cases h2 : d.dec r with
      | none => rw [h2] at h; cases h
      | some z =>
        obtain ⟨b, r'⟩ := z
        rw [h2] at h
        simp only [Option.some.injEq, Prod.mk.injEq] at h
        obtain ⟨rfl, rfl⟩ := h
        exact ⟨⟨r, rfl⟩, h2⟩

/-- What lies under a reader: the bytes. -/
structure RdB (hb : Heap) (b : V) (bs : List Nat) : Prop where
  rs : RS hb 1 b (bs.map byteC)
  by_ : Bytes bs
  len : bs.length ≤ 4294967296

/-- The reader 'r' over 'bs': what is left to be read; none: it failed. -/
def RdSt (hb h : Heap) (r : Nat) (b : V) (bs : List Nat) : Option (List Nat) → Prop
  | some rest => hb.n ≤ r ∧ Ext hb h ∧ ∃ a, a ≤ bs.length ∧ rest = bs.drop a ∧ Own h r [b, .int .i64 (.ofNat a), .bool false]
  | none => hb.n ≤ r ∧ Ext hb h ∧ ∃ a : Nat, Own h r [b, .int .i64 (.ofNat a), .bool true]

/-- Other things turn. -/
theorem RdSt.ext {S : List Nat} {hb h h' : Heap} {r : Nat} {b : V} {bs : List Nat} {σ : Option (List Nat)} (k : RdSt hb h r b bs σ) (hE : ExtX S h h') (hr : r ∉ S) (hS : ∀ j ∈ S, hb.n ≤ j) : RdSt hb h' r b bs σ := by
  have hX : ∀ {h}, Ext hb h → ExtX S h h' → Ext hb h' := fun e k => e.step k fun j hj => .inr (hS j hj)
  cases σ with
  | none =>
    obtain ⟨h1, h2, a, h3⟩ := k
    exact ⟨h1, hX h2 hE, a, h3.ext hE hr⟩
  | some l =>
    obtain ⟨h1, h2, a, ha, hl, h3⟩ := k
    exact ⟨h1, hX h2 hE, a, ha, hl, h3.ext hE hr⟩
theorem dU_drop {bs : List Nat} {a n : Nat} {r : List Nat} (hB : Bytes bs) (ha : a ≤ bs.length) (h : dU 9 true (bs.drop a) = some (n, r)) : r = bs.drop (bs.length - r.length) ∧ r.length ≤ bs.length := by
  obtain ⟨h1, _, _⟩ := dU_dec 9 true _ n r (fun x hx => hB x (List.mem_of_mem_drop hx)) h
  have h2 := congrArg List.length h1
  simp at h2
  have h3 : bs = (bs.take a ++ encU 9 n) ++ r := by
    rw [List.append_assoc, ← h1, List.take_append_drop]
  refine ⟨?_, by omega⟩
  have h5 : ∀ p : List Nat, bs = p ++ r → r = bs.drop (bs.length - r.length) := by
    rintro p rfl
    rw [List.length_append, Nat.add_sub_cancel, List.drop_left]
  exact h5 _ h3

end Am

/-
  A writer at work: what was written, and whether a number may not be. What any code is written as.
-/
namespace Am
open Go
set_option linter.unusedSimpArgs false
set_option linter.unusedVariables false

/-- The writer 'w': over 'bv'. -/
def WrSt (hb h : Heap) (w : Nat) (bv : V) (l : List Nat) (bad : Bool) : Prop :=
  hb.n ≤ w ∧ Ext hb h ∧ Own h w [bv, .bool bad] ∧ Ow h 1 bv (l.map byteC) ∧ ∀ j ∈ slIds bv, hb.n ≤ j ∧ j ≠ w

theorem WrSt.ext {S : List Nat} {hb h h' : Heap} {w : Nat} {bv : V} {l : List Nat} {bad : Bool} (k : WrSt hb h w bv l bad) (hE : ExtX S h h') (hw : w ∉ S) (hv : ∀ j ∈ slIds bv, j ∉ S) (hS : ∀ j ∈ S, hb.n ≤ j) : WrSt hb h' w bv l bad := by
  obtain ⟨h1, h2, h3, h4, h5⟩ := k
  exact ⟨h1, h2.step hE fun j hj => .inr (hS j hj), h3.ext hE hw, h4.ext hE hv, h5⟩
/-- From a writer to one that came of it. -/
def WrFr (w : Nat) (h : Heap) (bv : V) (h' : Heap) (bv' : V) : Prop := ExtX (w :: slIds bv) h h' ∧ ∀ j ∈ slIds bv', j ∈ slIds bv ∨ h.n ≤ j

theorem WrFr.trans {w : Nat} {a b c : Heap} {u v x : V} (h : WrFr w a u b v) (k : WrFr w b v c x) : WrFr w a u c x := by
  refine ⟨h.1.step k.1 fun j hj => ?_, fun j hj => ?_⟩
  · rcases List.mem_cons.1 hj with rfl | hj
    · exact .inl (by simp)
    · rcases h.2 j hj with e | e
      · exact .inl (by simp [e])
      · exact .inr e
  · rcases k.2 j hj with e | e
    · exact h.2 j e
    · have := h.1.1; exact .inr (by omega)
theorem encL_ge {α : Type} {f : α → List Nat} (h : ∀ a, 1 ≤ (f a).length) : ∀ l : List α, l.length ≤ (encL f l).length
  | [] => Nat.le_refl _
  | a :: l => by
    have h1 := h a
    have h2 := encL_ge h l
    simp only [encL, List.length_cons, List.length_append]
    omega
theorem encL_split {α : Type} (f : α → List Nat) (l : List α) {j : Nat} (hj : j < l.length) : (encL f l).length = (encL f (l.take j)).length + (f l[j]).length + (encL f (l.drop (j + 1))).length := by
  have h1 : l = l.take j ++ l[j] :: l.drop (j + 1) := by rw [← List.drop_eq_getElem_cons hj, List.take_append_drop]
  have h2 := congrArg (fun l => (encL f l).length) h1
  simp only [encL_append, encL, List.length_append] at h2
  omega
theorem encL_take {α : Type} (f : α → List Nat) (l : List α) {j : Nat} (hj : j < l.length) : encL f (l.take (j + 1)) = encL f (l.take j) ++ f l[j] := by
  rw [← List.take_append_getElem hj, encL_append]
  simp [encL]
/-- What a signed number is written as. -/
def zigN (e : Int) : Nat := (IntKind.u64.wrap ((BitVec.ofInt 64 (IntKind.u64.wrap (IntKind.u64.wrap e * 2 ^ 1)) ^^^ BitVec.ofInt 64 (IntKind.u64.wrap (e.fdiv (2 ^ 63)))).toNat : Int)).toNat

theorem encU_ge (k n : Nat) : 1 ≤ (encU k n).length := (encU_len k n).1
end Am

/-
  Bytes of slices as texts: equal or not.
-/
namespace Am
open Go
set_option linter.unusedSimpArgs false
set_option linter.unusedVariables false

theorem cellBytes_of : ∀ l : List Nat, cellBytes (l.map byteC).flatten = some (l.map UInt8.ofNat)
  | [] => rfl
  | a :: l => by
    simp only [List.map_cons, List.flatten_cons, byteC, List.cons_append, List.nil_append, cellBytes, cellBytes_of l]
    rfl

theorem u8_inj : ∀ {a b : List Nat}, Bytes a → Bytes b → (a.map UInt8.ofNat = b.map UInt8.ofNat ↔ a = b)
  | [], [], _, _ => by simp
  | [], _ :: _, _, _ => by simp
  | _ :: _, [], _, _ => by simp
  | x :: a, y :: b, ha, hb => by
    simp only [List.map_cons, List.cons.injEq]
    rw [u8_inj (fun z hz => ha z (by simp [hz])) fun z hz => hb z (by simp [hz])]
    have hx := ha x (by simp)
    have hy := hb y (by simp)
    refine and_congr_left fun _ => ⟨fun h => ?_, fun h => by rw [h]⟩
    have h2 := congrArg UInt8.toNat h
    rw [UInt8.toNat_ofNat_of_lt' (by simpa using hx), UInt8.toNat_ofNat_of_lt' (by simpa using hy)] at h2
    exact h2

theorem w_toStr {T : Nat → Option AFunc} {O : CallF} {vs ls : List V} {h : Heap} {Q : List V → Heap → Prop} {os : List AOp} {x : Opd} {v : V} {l : List Nat} (hx : ev ls vs x = some v) (hr : RS h 1 v (l.map byteC)) (k1 : WPo T O os (.str (l.map UInt8.ofNat) :: ls) vs h Q) : WPo T O (⟨none, .toStr x⟩ :: os) ls vs h Q := by
  refine w_op ?_ k1
  show o_toStr x ls vs h = _
  simp only [o_toStr, hx, hr.2.1, hr.1, cellBytes_of]

theorem w_eqS {T : Nat → Option AFunc} {O : CallF} {vs ls : List V} {h : Heap} {Q : List V → Heap → Prop} {os : List AOp} {q : EqK} {x y : Opd} {a b : List UInt8} (hx : ev ls vs x = some (.str a)) (hy : ev ls vs y = some (.str b)) (k1 : WPo T O os (.bool (eqBytes a b) :: ls) vs h Q) : WPo T O (⟨none, .bin .eql q x y⟩ :: os) ls vs h Q :=
  w_op (o_bin_v hx hy rfl) k1
end Am

/-
  Code by value is code; how long its bytes are.
-/
namespace Am
open Go
set_option linter.unusedSimpArgs false
set_option linter.unusedVariables false

theorem encU_10 (n : Nat) : (encU 9 n).length ≤ 10 := (encU_len 9 n).2
end Am

/-
  Profiles as data: their bytes.
-/
namespace Am
open Go
set_option linter.unusedSimpArgs false
set_option linter.unusedVariables false

end Am
namespace Am
open Go
/-- A reader over 'bs' whose last cell says that it is well: what is left to be read; none: it failed. -/
def RdSo (hb h : Heap) (r : Nat) (b : V) (bs : List Nat) : Option (List Nat) → Prop
  | some rest => hb.n ≤ r ∧ Ext hb h ∧ ∃ a, a ≤ bs.length ∧ rest = bs.drop a ∧ Own h r [b, .int .i64 (.ofNat a), .bool true]
  | none => hb.n ≤ r ∧ Ext hb h ∧ ∃ a : Nat, a ≤ bs.length ∧ Own h r [b, .int .i64 (.ofNat a), .bool false]

/-- Other things turn. -/
theorem RdSo.ext {S : List Nat} {hb h h' : Heap} {r : Nat} {b : V} {bs : List Nat} {σ : Option (List Nat)} (k : RdSo hb h r b bs σ) (hE : ExtX S h h') (hr : r ∉ S) (hS : ∀ j ∈ S, hb.n ≤ j) : RdSo hb h' r b bs σ := by
  have hX : ∀ {h}, Ext hb h → ExtX S h h' → Ext hb h' := fun e k => e.step k fun j hj => .inr (hS j hj)
  cases σ with
  | none =>
    obtain ⟨h1, h2, a, ha, h3⟩ := k
    exact ⟨h1, hX h2 hE, a, ha, h3.ext hE hr⟩
  | some l =>
    obtain ⟨h1, h2, a, ha, hl, h3⟩ := k
    exact ⟨h1, hX h2 hE, a, ha, hl, h3.ext hE hr⟩
end Am
namespace Am
open Go
def preL2 {α : Type} (as : List α) : Option (List α × List Nat) → Option (List α × List Nat)
  | none => none
  | some (xs, r) => some (as ++ xs, r)
theorem preL2_nil {α : Type} (o : Option (List α × List Nat)) : preL2 [] o = o := by
  cases o with
  | none => rfl
  | some y => obtain ⟨a, b⟩ := y; rfl
/-- One more of them is read. -/
theorem dRep_up {α : Type} {d : List Nat → Option (α × List Nat)} {as : List α} {x : α} {m : Nat} {l0 : List Nat} {total : Option (List α × List Nat)} (h : total = preL2 as (dRep d (m + 1) l0)) (hx : ∀ y l, d l0 = some (y, l) → x = y) :
    (rst (d l0) = none → total = none) ∧ ∀ l1, rst (d l0) = some l1 → total = preL2 (as ++ [x]) (dRep d m l1) := by
  subst h
  simp only [dRep]
  cases hd : d l0 with
  | none => exact ⟨fun _ => rfl, fun l1 e => by cases e⟩
  | some y =>
    obtain ⟨a, l'⟩ := y
    have := hx a l' hd
    subst this
    refine ⟨(fun e => by cases e), fun l1 e => ?_⟩
    cases e
    simp only
    cases dRep d m l' with
    | none => rfl
    | some z => obtain ⟨zs, l2⟩ := z; simp [preL2]
theorem cList_aft {α : Type} (c : Cod α) {most : Nat} (hm : most < 18446744073709551616) {σ : Option (List Nat)} {n0 : Nat} (h : ∀ x l, aft (cNum most hm).dec σ = some (x, l) → Int.ofNat n0 = x) :
    aft (cList c most hm).dec σ = (match aft (cNum most hm).dec σ with
    | none => none
    | some (_, l) => dRep c.dec n0 l) := by
  cases σ with
  | none => rfl
  | some l =>
    show (match (cNum most hm).dec l with
      | none => none
      | some (n, r) => dRep c.dec n.toNat r) = _
    cases hd : (cNum most hm).dec l with
    | none => simp only [aft, hd]
    | some y =>
      obtain ⟨n, l'⟩ := y
      have := h n l' hd
      subst this
      simp only [aft, hd]
      rfl
end Am
namespace Am
open Go
theorem byteC_of {a : Int} (h : 0 ≤ a) : byteC a.toNat = [V.int .u8 a] := by
  have e : Int.ofNat a.toNat = a := by show ((a.toNat : Nat) : Int) = a; omega
  simp only [byteC, e]
end Am

/-
  Values, modules and turns as data, and where they lie: each object of a machine bears a label.
-/
namespace Am
open Go
set_option linter.unusedSimpArgs false
set_option linter.unusedVariables false

/-- A value: its kind, number, text, parts. -/
inductive Val where
  | mk (k n : Int) (s : List UInt8) (l : List Val)

mutual
/-- A value's cells. -/
def VaR (Z : Nat → Prop) (h : Heap) : Val → List V → Prop
  | .mk k n s l, c => ∃ v lc, c = [.int .u8 k, .int .i64 n, .str s, v] ∧ RSz Z h 4 v lc ∧ VasR Z h l lc
def VasR (Z : Nat → Prop) (h : Heap) : List Val → List (List V) → Prop
  | [], lc => lc = []
  | a :: l, lc => ∃ c lc', lc = c :: lc' ∧ VaR Z h a c ∧ VasR Z h l lc'
end

mutual
theorem VaR.ext {Z Z' : Nat → Prop} {S : List Nat} {h h' : Heap} (hE : ExtX S h h') (hs : ∀ j, Z j → j ∉ S) (hz : ∀ j, Z j → j < h.n → Z' j) : ∀ {a : Val} {c : List V}, VaR Z h a c → VaR Z' h' a c
  | .mk k n s l, c, ha => by
    unfold VaR at ha ⊢
    obtain ⟨v, lc, e, h1, h2⟩ := ha
    exact ⟨v, lc, e, ⟨h1.1.ext hE fun id off len ver e f hv => hs id (h1.2 id (by rw [hv]; simp [slIds])), fun j hj => hz j (h1.2 j hj) (h1.1.lt j hj)⟩, VasR.ext hE hs hz h2⟩
theorem VasR.ext {Z Z' : Nat → Prop} {S : List Nat} {h h' : Heap} (hE : ExtX S h h') (hs : ∀ j, Z j → j ∉ S) (hz : ∀ j, Z j → j < h.n → Z' j) : ∀ {l : List Val} {lc : List (List V)}, VasR Z h l lc → VasR Z' h' l lc
  | [], lc, ha => by unfold VasR at ha ⊢; exact ha
  | a :: l, lc, ha => by
    unfold VasR at ha ⊢
    obtain ⟨c, lc', e, h1, h2⟩ := ha
    exact ⟨c, lc', e, VaR.ext hE hs hz h1, VasR.ext hE hs hz h2⟩
end

theorem VaR.ext0 {Z : Nat → Prop} {h h' : Heap} {a : Val} {c : List V} (k : VaR Z h a c) (hE : Ext h h') : VaR Z h' a c := k.ext hE (by simp) fun _ h _ => h
theorem VasR.ext0 {Z : Nat → Prop} {h h' : Heap} {l : List Val} {lc : List (List V)} (k : VasR Z h l lc) (hE : Ext h h') : VasR Z h' l lc := k.ext hE (by simp) fun _ h _ => h

theorem VaR.shape {Z : Nat → Prop} {h : Heap} {a : Val} {c : List V} (k : VaR Z h a c) : c.length = 4 ∧ allOne c = true := by
  cases a
  unfold VaR at k
  obtain ⟨v, lc, rfl, h1, h2⟩ := k
  exact ⟨rfl, by simp only [allOne, h1.1.one]; rfl⟩

theorem VasR.nil (Z : Nat → Prop) (h : Heap) : VasR Z h [] [] := by unfold VasR; rfl
theorem VasR.cons {Z : Nat → Prop} {h : Heap} {a : Val} {l : List Val} {c : List V} {lc : List (List V)} (k : VaR Z h a c) (k2 : VasR Z h l lc) : VasR Z h (a :: l) (c :: lc) := by
  unfold VasR; exact ⟨c, lc, rfl, k, k2⟩
theorem VasR.len {Z : Nat → Prop} {h : Heap} : ∀ {l : List Val} {lc : List (List V)}, VasR Z h l lc → lc.length = l.length
  | [], lc, k => by unfold VasR at k; rw [k]; rfl
  | a :: l, lc, k => by
    unfold VasR at k
    obtain ⟨c, lc', rfl, _, h2⟩ := k
    rw [List.length_cons, List.length_cons, h2.len]
theorem VasR.get {Z : Nat → Prop} {h : Heap} : ∀ {l : List Val} {lc : List (List V)}, VasR Z h l lc → ∀ {i : Nat} (hi : i < l.length) (hj : i < lc.length), VaR Z h l[i] lc[i]
  | [], lc, k, i, hi, hj => by cases hi
  | a :: l, lc, k, i, hi, hj => by
    unfold VasR at k
    obtain ⟨c, lc', rfl, h1, h2⟩ := k
    cases i with
    | zero => exact h1
    | succ i => exact h2.get (by simpa using hi) (by simpa using hj)
structure InsA where
  op : Int
  a : Int
  b : Int
structure FnA where
  name : List UInt8
  params : Int
  vars : Int
  code : List InsA
structure OnA where
  tag : List UInt8
  params : Int
  fn : Int
structure PartA where
  name : List UInt8
  params : Int
  on : List OnA
structure ModA where
  consts : List Val
  tags : List (List UInt8)
  fns : List FnA
  roles : List PartA

def insC (i : InsA) : List V := [.int .u8 i.op, .int .i64 i.a, .int .i64 i.b]
def onC (o : OnA) : List V := [.str o.tag, .int .i64 o.params, .int .i64 o.fn]
def tagC (t : List UInt8) : List V := [.str t]
def FnR (Z : Nat → Prop) (h : Heap) (c : List V) (f : FnA) : Prop := ∃ v, c = [.str f.name, .int .i64 f.params, .int .i64 f.vars, v] ∧ RSz Z h 3 v (f.code.map insC)
def PartR (Z : Nat → Prop) (h : Heap) (c : List V) (p : PartA) : Prop := ∃ v, c = [.str p.name, .int .i64 p.params, v] ∧ RSz Z h 3 v (p.on.map onC)
def ModR (Z : Nat → Prop) (h : Heap) (c : List V) (m : ModA) : Prop :=
  ∃ cs ts fs rs lc lf lr, c = [cs, ts, fs, rs] ∧ RSz Z h 4 cs lc ∧ VasR Z h m.consts lc ∧ RSz Z h 1 ts (m.tags.map tagC) ∧ RSz Z h 4 fs lf ∧ All2 (FnR Z h) lf m.fns ∧ RSz Z h 3 rs lr ∧ All2 (PartR Z h) lr m.roles

/-- A function under way. -/
structure Frm where
  fn : Nat
  at_ : Nat
  vars : List Val
  stack : List Val
/-- A send, or a spawn. -/
structure Eff where
  to : Int
  role : Int
  tag : List UInt8
  args : List Val
structure Trn where
  frames : List Frm
  effs : List Eff
  self : Int
  next : Int
  used : Int
  over : Int
  trap : Int
  role : Int
  state : List Val

def EffR (Z : Nat → Prop) (h : Heap) (c : List V) (e : Eff) : Prop := ∃ v lc, c = [.int .i64 e.to, .int .i64 e.role, .str e.tag, v] ∧ RSz Z h 4 v lc ∧ VasR Z h e.args lc
/-- Labels: 0 of what stays, 1 the machine's, 2 its frames', 3 its effects', 2 k + 4 the variables' of frame k, 2 k + 5 its stack's. -/
abbrev Lab := Nat → Nat
def FrmR (L : Lab) (h : Heap) (k : Nat) (c : List V) (f : Frm) : Prop :=
  ∃ vv stk lv ls, c = [.int .i64 (.ofNat f.fn), .int .i64 (.ofNat f.at_), vv, stk] ∧ Ow h 4 vv lv ∧ VasR (fun i => L i = 0) h f.vars lv ∧ Ow h 4 stk ls ∧ VasR (fun i => L i = 0) h f.stack ls ∧ (∀ i ∈ slIds vv, L i = 2 * k + 4) ∧ ∀ i ∈ slIds stk, L i = 2 * k + 5

theorem FrmR.ext {L L' : Lab} {S : List Nat} {h h' : Heap} {k : Nat} {c : List V} {f : Frm} (r : FrmR L h k c f) (hE : ExtX S h h') (hs : ∀ j ∈ S, L j ≠ 0 ∧ L j ≠ 2 * k + 4 ∧ L j ≠ 2 * k + 5) (hL : ∀ j, j < h.n → L' j = L j) : FrmR L' h' k c f := by
  obtain ⟨vv, stk, lv, ls, e, h1, h2, h3, h4, h5, h6⟩ := r
  refine ⟨vv, stk, lv, ls, e, h1.ext hE fun j hj e => ?_, h2.ext hE (fun j hj e => (hs j e).1 hj) fun j hj hl => by show L' j = 0; rw [hL j hl]; exact hj, h3.ext hE fun j hj e => ?_, h4.ext hE (fun j hj e => (hs j e).1 hj) fun j hj hl => by show L' j = 0; rw [hL j hl]; exact hj, fun j hj => ?_, fun j hj => ?_⟩
  · exact (hs j e).2.1 (h5 j hj)
  · exact (hs j e).2.2 (h6 j hj)
  · rw [hL j (h1.rs.lt j hj)]; exact h5 j hj
  · rw [hL j (h3.rs.lt j hj)]; exact h6 j hj
theorem FnR.ext {Z Z' : Nat → Prop} {S : List Nat} {h h' : Heap} {c : List V} {f : FnA} (r : FnR Z h c f) (hE : ExtX S h h') (hs : ∀ j, Z j → j ∉ S) (hz : ∀ j, Z j → j < h.n → Z' j) : FnR Z' h' c f := by
  obtain ⟨v, e, h1⟩ := r
  exact ⟨v, e, h1.1.ext hE fun id off len ver e f hv => hs id (h1.2 id (by rw [hv]; simp [slIds])), fun j hj => hz j (h1.2 j hj) (h1.1.lt j hj)⟩
theorem PartR.ext {Z Z' : Nat → Prop} {S : List Nat} {h h' : Heap} {c : List V} {f : PartA} (r : PartR Z h c f) (hE : ExtX S h h') (hs : ∀ j, Z j → j ∉ S) (hz : ∀ j, Z j → j < h.n → Z' j) : PartR Z' h' c f := by
  obtain ⟨v, e, h1⟩ := r
  exact ⟨v, e, h1.1.ext hE fun id off len ver e f hv => hs id (h1.2 id (by rw [hv]; simp [slIds])), fun j hj => hz j (h1.2 j hj) (h1.1.lt j hj)⟩
theorem EffR.ext {Z Z' : Nat → Prop} {S : List Nat} {h h' : Heap} {c : List V} {f : Eff} (r : EffR Z h c f) (hE : ExtX S h h') (hs : ∀ j, Z j → j ∉ S) (hz : ∀ j, Z j → j < h.n → Z' j) : EffR Z' h' c f := by
  obtain ⟨v, lc, e, h1, h2⟩ := r
  exact ⟨v, lc, e, ⟨h1.1.ext hE fun id off len ver e f hv => hs id (h1.2 id (by rw [hv]; simp [slIds])), fun j hj => hz j (h1.2 j hj) (h1.1.lt j hj)⟩, h2.ext hE hs hz⟩
theorem RSz.extL {Z Z' : Nat → Prop} {S : List Nat} {h h' : Heap} {esz : Nat} {v : V} {l : List (List V)} (h1 : RSz Z h esz v l) (hE : ExtX S h h') (hs : ∀ j, Z j → j ∉ S) (hz : ∀ j, Z j → j < h.n → Z' j) : RSz Z' h' esz v l :=
  ⟨h1.1.ext hE fun id off len ver e f hv => hs id (h1.2 id (by rw [hv]; simp [slIds])), fun j hj => hz j (h1.2 j hj) (h1.1.lt j hj)⟩
theorem ModR.ext {Z Z' : Nat → Prop} {S : List Nat} {h h' : Heap} {c : List V} {m : ModA} (r : ModR Z h c m) (hE : ExtX S h h') (hs : ∀ j, Z j → j ∉ S) (hz : ∀ j, Z j → j < h.n → Z' j) : ModR Z' h' c m := by
  obtain ⟨cs, ts, fs, rs, lc, lf, lr, e, h1, h2, h3, h4, h5, h6, h7⟩ := r
  exact ⟨cs, ts, fs, rs, lc, lf, lr, e, h1.extL hE hs hz, h2.ext hE hs hz, h3.extL hE hs hz, h4.extL hE hs hz, h5.mono fun _ _ _ _ k => k.ext hE hs hz, h6.extL hE hs hz, h7.mono fun _ _ _ _ k => k.ext hE hs hz⟩
end Am

/-
  Values' bytes: what is written is read again, and what is read is written again.
-/
namespace Am
open Go
set_option linter.unusedSimpArgs false
set_option linter.unusedVariables false

mutual
def encV : Val → List Nat
  | .mk k n s l => k.toNat :: (if k = 2 then [n.toNat] else if k = 3 then encU 9 s.length ++ s.map UInt8.toNat else if k = 4 then encU 9 l.length ++ encVs l else encU 9 (zig n))
def encVs : List Val → List Nat
  | [] => []
  | a :: l => encV a ++ encVs l
end
mutual
/-- How many values there are in one. -/
def pcs : Val → Nat
  | .mk _ _ _ l => 1 + pcss l
def pcss : List Val → Nat
  | [] => 0
  | a :: l => pcs a + pcss l
end
mutual
/-- A right value, but for how many there are in it. -/
def okV : Nat → Val → Prop
  | lv, .mk k n s l => 0 < lv ∧ (k = 1 ∧ -9223372036854775808 ≤ n ∧ n < 9223372036854775808 ∧ s = [] ∧ l = [] ∨ k = 2 ∧ (n = 0 ∨ n = 1) ∧ s = [] ∧ l = [] ∨
    k = 3 ∧ n = 0 ∧ s.length ≤ 4096 ∧ l = [] ∨ k = 4 ∧ n = 0 ∧ s = [] ∧ okVs (lv - 1) l ∨ k = 5 ∧ 0 ≤ n ∧ n < 9223372036854775808 ∧ s = [] ∧ l = [])
def okVs : Nat → List Val → Prop
  | _, [] => True
  | lv, a :: l => okV lv a ∧ okVs lv l
end

def repV (f : Nat → List Nat → Option (Val × Nat × List Nat)) : Nat → Nat → List Nat → Option (List Val × Nat × List Nat)
  | 0, left, l => some ([], left, l)
  | m + 1, left, l => match f left l with
    | none => none
    | some (a, left', r) => match repV f m left' r with
      | none => none
      | some (ax, left2, r2) => some (a :: ax, left2, r2)

/-- A value of so many levels and pieces, how many pieces are left, and what is behind it. -/
def decV : Nat → Nat → List Nat → Option (Val × Nat × List Nat)
  | 0, _, _ => none
  | _ + 1, 0, _ => none
  | _ + 1, _ + 1, [] => none
  | lv + 1, left + 1, k :: r =>
    if k = 2 then (match r with
      | [] => none
      | x :: r' => if x ≤ 1 then some (.mk 2 (Int.ofNat x) [] [], left, r') else none)
    else if k = 3 then (match dU 9 true r with
      | none => none
      | some (m, r') => if m ≤ 4096 ∧ m ≤ r'.length then some (.mk 3 0 ((r'.take m).map UInt8.ofNat) [], left, r'.drop m) else none)
    else if k = 4 then (match dU 9 true r with
      | none => none
      | some (m, r') => if m ≤ 256 then (match repV (decV lv) m left r' with
        | none => none
        | some (l, left', r2) => some (.mk 4 0 [] l, left', r2)) else none)
    else if k = 1 ∨ k = 5 then (match dU 9 true r with
      | none => none
      | some (m, r') => if k = 5 ∧ zag m < 0 then none else some (.mk (Int.ofNat k) (zag m) [] [], left, r'))
    else none

theorem pcs_pos : ∀ v : Val, 1 ≤ pcs v
  | .mk _ _ _ l => by unfold pcs; omega
theorem pcss_len : ∀ l : List Val, l.length ≤ pcss l
  | [] => Nat.zero_le _
  | a :: l => by have := pcs_pos a; have := pcss_len l; unfold pcss; simp only [List.length_cons]; omega
theorem zig_lt {n : Int} (h : -9223372036854775808 ≤ n) (h2 : n < 9223372036854775808) : zig n < 128 ^ 9 * 2 := by
  unfold zig; simp; split <;> omega
theorem zag_rng {m : Nat} (h : m < 128 ^ 9 * 2) : -9223372036854775808 ≤ zag m ∧ zag m < 9223372036854775808 := by
  have c : ∀ n : Nat, Int.ofNat n = (n : Int) := fun _ => rfl
  unfold zag
  simp only [c]
  simp at h
  split <;> omega
theorem u8_back (s : List UInt8) : (s.map UInt8.toNat).map UInt8.ofNat = s := by
  induction s with
  | nil => rfl
  | cons x s ih => simp [ih]
theorem u8_forth {l : List Nat} (h : Bytes l) : (l.map UInt8.ofNat).map UInt8.toNat = l := by
  induction l with
  | nil => rfl
  | cons x l ih =>
    have hx := h x (by simp)
    simp only [List.map_cons, ih fun y hy => h y (by simp [hy])]
    rw [UInt8.toNat_ofNat_of_lt' (by simpa using hx)]

theorem rep_enc {lv : Nat} (ih : ∀ (v : Val) (left : Nat) (r : List Nat), left ≤ 256 → okV lv v → pcs v ≤ left → decV lv left (encV v ++ r) = some (v, left - pcs v, r)) :
    ∀ (l : List Val) (left : Nat) (r : List Nat), left ≤ 256 → okVs lv l → pcss l ≤ left → repV (decV lv) l.length left (encVs l ++ r) = some (l, left - pcss l, r)
  | [], left, r, _, _, _ => rfl
  | a :: l, left, r, hL, h, hp => by
    unfold okVs at h
    unfold pcss at hp
    have h1 := ih a left (encVs l ++ r) hL h.1 (by omega)
    have h2 := rep_enc ih l (left - pcs a) r (by omega) h.2 (by omega)
    simp only [List.length_cons, encVs, List.append_assoc, repV, h1, h2, pcss, Option.some.injEq, Prod.mk.injEq, true_and, and_true]
    omega

theorem decV_enc : ∀ (lv : Nat) (v : Val) (left : Nat) (r : List Nat), left ≤ 256 → okV lv v → pcs v ≤ left → decV lv left (encV v ++ r) = some (v, left - pcs v, r)
  | 0, .mk k n s l, left, r, _, h, _ => by unfold okV at h; omega
  | lv + 1, .mk k n s l, 0, r, _, h, hp => by have := pcs_pos (.mk k n s l); omega
  | lv + 1, .mk k n s l, left + 1, r, hL, h, hp => by
    unfold okV at h
    unfold pcs at hp
    unfold encV pcs
    rcases h.2 with ⟨rfl, h1, h2, rfl, rfl⟩ | ⟨rfl, h1, rfl, rfl⟩ | ⟨rfl, rfl, h1, rfl⟩ | ⟨rfl, rfl, rfl, h1⟩ | ⟨rfl, h1, h2, rfl, rfl⟩
    · rw [if_neg (by decide), if_neg (by decide), if_neg (by decide)]
      have hd := dU_enc 9 (zig n) true r (zig_lt h1 h2) (.inl rfl)
      have e : (1 : Int).toNat = 1 := rfl
      simp only [e, List.cons_append, decV, hd]
      simp only [zag_zig, pcss]
      rfl
    · rw [if_pos rfl]
      have e : (2 : Int).toNat = 2 := rfl
      simp only [e, List.cons_append, List.nil_append, decV, pcss]
      rcases h1 with rfl | rfl <;> rfl
    · rw [if_neg (by decide), if_pos rfl]
      have hd := dU_enc 9 s.length true (s.map UInt8.toNat ++ r) (by simp; omega) (.inl rfl)
      have e : (3 : Int).toNat = 3 := rfl
      simp only [e, List.cons_append, List.append_assoc, decV, hd, pcss]
      have hl : (s.map UInt8.toNat).length = s.length := List.length_map ..
      rw [if_neg (by decide), if_pos trivial, if_pos ⟨h1, by simp⟩, List.take_left' hl, List.drop_left' hl, u8_back]
      rfl
    · rw [if_neg (by decide), if_neg (by decide), if_pos rfl]
      have hl := pcss_len l
      have hd := dU_enc 9 l.length true (encVs l ++ r) (by simp; omega) (.inl rfl)
      have hr := rep_enc (fun v left r => decV_enc lv v left r) l left r (by omega) h1 (by omega)
      have e : (4 : Int).toNat = 4 := rfl
      simp only [e, List.cons_append, List.append_assoc, decV, hd, hr]
      rw [if_neg (by decide), if_neg (by decide), if_pos trivial, if_pos (by omega)]
      simp only [Option.some.injEq, Prod.mk.injEq, true_and, and_true]
      omega
    · rw [if_neg (by decide), if_neg (by decide), if_neg (by decide)]
      have hd := dU_enc 9 (zig n) true r (zig_lt (by omega) h2) (.inl rfl)
      have e : (5 : Int).toNat = 5 := rfl
      simp only [e, List.cons_append, decV, hd]
      simp only [zag_zig, pcss]
      rw [if_neg (by decide), if_neg (by decide), if_neg (by decide), if_pos (by decide), if_neg (by omega)]
      rfl

theorem rep_dec {lv : Nat} (ih : ∀ (left : Nat) (l : List Nat) (v : Val) (left' : Nat) (r : List Nat), Bytes l → decV lv left l = some (v, left', r) → okV lv v ∧ left = left' + pcs v ∧ l = encV v ++ r) :
    ∀ (m left : Nat) (l : List Nat) (vs : List Val) (left' : Nat) (r : List Nat), Bytes l → repV (decV lv) m left l = some (vs, left', r) → vs.length = m ∧ okVs lv vs ∧ left = left' + pcss vs ∧ l = encVs vs ++ r
  | 0, left, l, vs, left', r, _, h => by
    simp only [repV, Option.some.injEq, Prod.mk.injEq] at h
    obtain ⟨rfl, rfl, rfl⟩ := h
    exact ⟨rfl, by unfold okVs; trivial, rfl, rfl⟩
  | m + 1, left, l, vs, left', r, hb, h => by
    simp only [repV] at h
    cases h1 : decV lv left l with
    | none => rw [h1] at h; cases h
    | some y =>
      obtain ⟨a, left1, r1⟩ := y
      rw [h1] at h
      simp only at h
      cases h2 : repV (decV lv) m left1 r1 with
      | none => rw [h2] at h; cases h
      | some z =>
        obtain ⟨ax, left2, r2⟩ := z
        rw [h2] at h
        simp only [Option.some.injEq, Prod.mk.injEq] at h
        obtain ⟨rfl, rfl, rfl⟩ := h
        obtain ⟨k1, k2, rfl⟩ := ih left l a left1 r1 hb h1
        obtain ⟨q1, q2, q3, rfl⟩ := rep_dec ih m left1 r1 ax left2 r2 hb.right h2
        refine ⟨by simp [q1], by unfold okVs; exact ⟨k1, q2⟩, ?_, by simp only [encVs, List.append_assoc]⟩
        unfold pcss
        omega

theorem decV_dec : ∀ (lv left : Nat) (l : List Nat) (v : Val) (left' : Nat) (r : List Nat), Bytes l → decV lv left l = some (v, left', r) → okV lv v ∧ left = left' + pcs v ∧ l = encV v ++ r
  | 0, left, l, v, left', r, _, h => by unfold decV at h; cases h
  | lv + 1, 0, l, v, left', r, _, h => by unfold decV at h; cases h
  | lv + 1, left + 1, [], v, left', r, _, h => by unfold decV at h; cases h
  | lv + 1, left + 1, k :: l, v, left', r, hb, h => by
    have hb1 : Bytes l := fun x hx => hb x (by simp [hx])
    unfold decV at h
    by_cases e2 : k = 2
    · subst e2
      rw [if_pos rfl] at h
      cases l with
      | nil => cases h
      | cons x l =>
        simp only at h
        by_cases hx : x ≤ 1
        · rw [if_pos hx] at h
          simp only [Option.some.injEq, Prod.mk.injEq] at h
          obtain ⟨rfl, rfl, rfl⟩ := h
          have : x = 0 ∨ x = 1 := by omega
          rcases this with rfl | rfl
          · exact ⟨by unfold okV; exact ⟨by omega, .inr (.inl ⟨rfl, .inl rfl, rfl, rfl⟩)⟩, by simp only [pcs, pcss], by unfold encV; rfl⟩
          · exact ⟨by unfold okV; exact ⟨by omega, .inr (.inl ⟨rfl, .inr rfl, rfl, rfl⟩)⟩, by simp only [pcs, pcss], by unfold encV; rfl⟩
        · rw [if_neg hx] at h; cases h
    rw [if_neg e2] at h
    by_cases e3 : k = 3
    · subst e3
      rw [if_pos rfl] at h
      cases hd : dU 9 true l with
      | none => rw [hd] at h; cases h
      | some y =>
        obtain ⟨m, r1⟩ := y
        rw [hd] at h
        simp only at h
        obtain ⟨rfl, _, _⟩ := dU_dec 9 true l m r1 hb1 hd
        by_cases hm : m ≤ 4096 ∧ m ≤ r1.length
        · rw [if_pos hm] at h
          simp only [Option.some.injEq, Prod.mk.injEq] at h
          obtain ⟨rfl, rfl, rfl⟩ := h
          have hl : ((r1.take m).map UInt8.ofNat).length = m := by simp; omega
          refine ⟨by unfold okV; exact ⟨by omega, .inr (.inr (.inl ⟨rfl, rfl, by omega, rfl⟩))⟩, by simp only [pcs, pcss], ?_⟩
          unfold encV
          rw [if_neg (by decide), if_pos rfl, hl, u8_forth fun x hx => hb1 x (List.mem_append.2 (.inr (List.mem_of_mem_take hx)))]
          simp only [List.cons_append, List.append_assoc, List.take_append_drop]
          rfl
        · rw [if_neg hm] at h; cases h
    rw [if_neg e3] at h
    by_cases e4 : k = 4
    · subst e4
      rw [if_pos rfl] at h
      cases hd : dU 9 true l with
      | none => rw [hd] at h; cases h
      | some y =>
        obtain ⟨m, r1⟩ := y
        rw [hd] at h
        simp only at h
        obtain ⟨rfl, _, _⟩ := dU_dec 9 true l m r1 hb1 hd
        by_cases hm : m ≤ 256
        · rw [if_pos hm] at h
          cases h2 : repV (decV lv) m left r1 with
          | none => rw [h2] at h; cases h
          | some z =>
            obtain ⟨vs, left2, r2⟩ := z
            rw [h2] at h
            simp only [Option.some.injEq, Prod.mk.injEq] at h
            obtain ⟨rfl, rfl, rfl⟩ := h
            obtain ⟨q1, q2, q3, rfl⟩ := rep_dec (fun left l v left' r => decV_dec lv left l v left' r) m left r1 vs left2 r2 hb1.right h2
            refine ⟨by unfold okV; exact ⟨by omega, .inr (.inr (.inr (.inl ⟨rfl, rfl, rfl, q2⟩)))⟩, by simp only [pcs]; omega, ?_⟩
            unfold encV
            rw [if_neg (by decide), if_neg (by decide), if_pos rfl, q1]
            simp only [List.cons_append, List.append_assoc]
            rfl
        · rw [if_neg hm] at h; cases h
    rw [if_neg e4] at h
    by_cases e5 : k = 1 ∨ k = 5
    · rw [if_pos e5] at h
      cases hd : dU 9 true l with
      | none => rw [hd] at h; cases h
      | some y =>
        obtain ⟨m, r1⟩ := y
        rw [hd] at h
        simp only at h
        obtain ⟨rfl, hm, _⟩ := dU_dec 9 true l m r1 hb1 hd
        have hz := zag_rng hm
        by_cases hc : k = 5 ∧ zag m < 0
        · rw [if_pos hc] at h; cases h
        · rw [if_neg hc] at h
          simp only [Option.some.injEq, Prod.mk.injEq] at h
          obtain ⟨rfl, rfl, rfl⟩ := h
          rcases e5 with rfl | rfl
          · refine ⟨by unfold okV; exact ⟨by omega, .inl ⟨rfl, hz.1, hz.2, rfl, rfl⟩⟩, by simp only [pcs, pcss], ?_⟩
            unfold encV
            rw [if_neg (by decide), if_neg (by decide), if_neg (by decide), zig_zag]
            rfl
          · refine ⟨by unfold okV; exact ⟨by omega, .inr (.inr (.inr (.inr ⟨rfl, by omega, hz.2, rfl, rfl⟩)))⟩, by simp only [pcs, pcss], ?_⟩
            unfold encV
            rw [if_neg (by decide), if_neg (by decide), if_neg (by decide), zig_zag]
            rfl
    · rw [if_neg e5] at h; cases h

theorem vs_byt {lv : Nat} (ih : ∀ v : Val, okV lv v → pcs v ≤ 256 → Bytes (encV v)) : ∀ l : List Val, okVs lv l → pcss l ≤ 256 → Bytes (encVs l)
  | [], _, _ => fun x hx => by simp only [encVs] at hx; cases hx
  | a :: l, h, hp => by
    unfold okVs at h
    unfold pcss at hp
    unfold encVs
    exact (ih a h.1 (by omega)).append (vs_byt ih l h.2 (by omega))
theorem u8_byt (s : List UInt8) : Bytes (s.map UInt8.toNat) := fun x hx => by
  obtain ⟨y, _, rfl⟩ := List.mem_map.1 hx
  exact UInt8.toNat_lt y
theorem v_byt : ∀ (lv : Nat) (v : Val), okV lv v → pcs v ≤ 256 → Bytes (encV v)
  | 0, .mk k n s l, h, _ => by unfold okV at h; omega
  | lv + 1, .mk k n s l, h, hp => by
    unfold okV at h
    unfold pcs at hp
    unfold encV
    intro x hx
    rcases List.mem_cons.1 hx with rfl | hx
    · rcases h.2 with ⟨rfl, _⟩ | ⟨rfl, _⟩ | ⟨rfl, _⟩ | ⟨rfl, _⟩ | ⟨rfl, _⟩ <;> decide
    rcases h.2 with ⟨rfl, h1, h2, rfl, rfl⟩ | ⟨rfl, h1, rfl, rfl⟩ | ⟨rfl, rfl, h1, rfl⟩ | ⟨rfl, rfl, rfl, h1⟩ | ⟨rfl, h1, h2, rfl, rfl⟩
    · rw [if_neg (by decide), if_neg (by decide), if_neg (by decide)] at hx
      exact encU_byte 9 _ (zig_lt h1 h2) x hx
    · rw [if_pos rfl] at hx
      simp at hx
      subst hx
      rcases h1 with rfl | rfl <;> decide
    · rw [if_neg (by decide), if_pos rfl] at hx
      exact Bytes.append (encU_byte 9 s.length (by simp; omega)) (u8_byt s) x hx
    · rw [if_neg (by decide), if_neg (by decide), if_pos rfl] at hx
      have := pcss_len l
      exact Bytes.append (encU_byte 9 l.length (by simp; omega)) (vs_byt (v_byt lv) l h1 (by omega)) x hx
    · rw [if_neg (by decide), if_neg (by decide), if_neg (by decide)] at hx
      exact encU_byte 9 _ (zig_lt (by omega) h2) x hx

/-- A value of at most 16 levels and 256 pieces. -/
def cVal : Cod Val where
  enc := encV
  dec l := match decV 16 256 l with
    | none => none
    | some (v, _, r) => some (v, r)
  ok v := okV 16 v ∧ pcs v ≤ 256
  byt v h := v_byt 16 v h.1 h.2
  ed v r h := by simp only [decV_enc 16 v 256 r (Nat.le_refl _) h.1 h.2]
  de l v r hb h := by
    cases hd : decV 16 256 l with
    | none => simp only [hd] at h; cases h
    | some y =>
      obtain ⟨v', left, r'⟩ := y
      simp only [hd, Option.some.injEq, Prod.mk.injEq] at h
      obtain ⟨rfl, rfl⟩ := h
      obtain ⟨k1, k2, k3⟩ := decV_dec 16 256 l v' left r' hb hd
      exact ⟨⟨k1, by omega⟩, k3⟩

/-- Any number of 64 bits. -/
def cI64 : Cod Int where
  enc a := encU 9 (zig a)
  dec l := dMap (fun n => some (zag n)) (dU 9 true l)
  ok a := -9223372036854775808 ≤ a ∧ a < 9223372036854775808
  byt a h := encU_byte 9 (zig a) (zig_lt h.1 h.2)
  ed a r h := by rw [dU_enc 9 (zig a) true r (zig_lt h.1 h.2) (.inl rfl)]; simp only [dMap, zag_zig]
  de l a r hb h := by
    cases hd : dU 9 true l with
    | none => rw [hd] at h; cases h
    | some x =>
      obtain ⟨n, r'⟩ := x
      rw [hd] at h
      simp only [dMap, Option.some.injEq, Prod.mk.injEq] at h
      obtain ⟨rfl, rfl⟩ := h
      obtain ⟨h1, h2, _⟩ := dU_dec 9 true l n r' hb hd
      exact ⟨zag_rng h2, by rw [h1, zig_zag]⟩

/-- A text of at most so many bytes. -/
def cBlob (most : Nat) (hm : most < 18446744073709551616) : Cod (List UInt8) where
  enc s := encU 9 s.length ++ s.map UInt8.toNat
  dec l := match dU 9 true l with
    | none => none
    | some (m, r) => if m ≤ most ∧ m ≤ r.length then some ((r.take m).map UInt8.ofNat, r.drop m) else none
  ok s := s.length ≤ most
  byt s h := Bytes.append (encU_byte 9 _ (by simp; omega)) (u8_byt s)
  ed s r h := by
    have hl : (s.map UInt8.toNat).length = s.length := List.length_map ..
    simp only [List.append_assoc, dU_enc 9 s.length true (s.map UInt8.toNat ++ r) (by simp; omega) (.inl rfl)]
    rw [if_pos ⟨h, by simp⟩, List.take_left' hl, List.drop_left' hl, u8_back]
  de l s r hb h := by
    cases hd : dU 9 true l with
    | none => simp only [hd] at h; cases h
    | some y =>
      obtain ⟨m, r1⟩ := y
      simp only [hd] at h
      obtain ⟨rfl, _, _⟩ := dU_dec 9 true l m r1 hb hd
      by_cases hm : m ≤ most ∧ m ≤ r1.length
      · rw [if_pos hm] at h
        simp only [Option.some.injEq, Prod.mk.injEq] at h
        obtain ⟨rfl, rfl⟩ := h
        have hl : ((r1.take m).map UInt8.ofNat).length = m := by simp; omega
        refine ⟨by show _ ≤ _; omega, ?_⟩
        rw [hl, u8_forth fun x hx => hb x (List.mem_append.2 (.inr (List.mem_of_mem_take hx)))]
        simp only [List.append_assoc, List.take_append_drop]
      · rw [if_neg hm] at h; cases h

def cVals : Cod (List Val) := cList cVal 255 (by decide)
def cTag : Cod (List UInt8) := cBlob 255 (by decide)
/-- What a turn did: to whom, a role, a tag, values. -/
def cEff : Cod (Int × Int × List UInt8 × List Val) := cSeq cI64 (cSeq cI64 (cSeq cTag cVals))
/-- Less of the things are so. -/
def cIf {α : Type} (c : Cod α) (p : α → Bool) : Cod α where
  enc := c.enc
  dec l := dMap (fun a => if p a = true then some a else none) (c.dec l)
  ok a := c.ok a ∧ p a = true
  byt a h := c.byt a h.1
  ed a r h := by simp only [c.ed a r h.1, dMap, if_pos h.2]
  de l a r hb h := by
    cases hd : c.dec l with
    | none => rw [hd] at h; cases h
    | some y =>
      obtain ⟨b, r'⟩ := y
      rw [hd] at h
      simp only [dMap] at h
      by_cases hp : p b = true
      · rw [if_pos hp] at h
        simp only [Option.some.injEq, Prod.mk.injEq] at h
        obtain ⟨rfl, rfl⟩ := h
        obtain ⟨k1, k2⟩ := c.de l b r' hb hd
        exact ⟨⟨k1, hp⟩, k2⟩
      · rw [if_neg hp] at h; cases h

mutual
/-- Its numbers are of 64 bits, its tuples not too long. -/
def RngV : Val → Prop
  | .mk _ n _ l => -9223372036854775808 ≤ n ∧ n < 9223372036854775808 ∧ l.length ≤ 2097152 ∧ RngVl l
def RngVl : List Val → Prop
  | [] => True
  | a :: l => RngV a ∧ RngVl l
end
theorem RngVl.mem : ∀ {l : List Val}, RngVl l → ∀ a ∈ l, RngV a
  | [], _, a, h => by cases h
  | b :: l, k, a, h => by
    unfold RngVl at k
    rcases List.mem_cons.1 h with rfl | h
    · exact k.1
    · exact k.2.mem a h
end Am

/-
  Records' bytes: ten numbers, a tag, values, values, effects. A writer of two cells.
-/
namespace Am
open Go
set_option linter.unusedSimpArgs false
set_option linter.unusedVariables false

/-- So many of them, no more and no less. -/
def cRep {α : Type} (c : Cod α) (n : Nat) : Cod (List α) where
  enc l := encL c.enc l
  dec l := dRep c.dec n l
  ok l := l.length = n ∧ ∀ a ∈ l, c.ok a
  byt l h := by
    have h2 := h.2
    clear h
    induction l with
    | nil => intro x hx; cases hx
    | cons a l ih => exact (c.byt a (h2 a (by simp))).append (ih fun x hx => h2 x (by simp [hx]))
  ed l r h := by
    have := dRep_enc c l r h.2
    rw [h.1] at this
    exact this
  de l ax r hb h := by
    obtain ⟨k1, k2, k3⟩ := dRep_dec c n l ax r hb h
    exact ⟨⟨k1, k2⟩, k3⟩

abbrev EffT := Int × Int × List UInt8 × List Val
abbrev RecT := List Int × List UInt8 × List Val × List Val × List EffT

def cRec0 : Cod RecT := cSeq (cRep cI64 10) (cSeq cTag (cSeq cVals (cSeq cVals (cList cEff 1000 (by decide)))))
def overOk (x : RecT) : Bool := decide (0 ≤ x.1.getD 5 0 ∧ x.1.getD 5 0 ≤ 4)
/-- A record. -/
def cRec : Cod RecT := cIf cRec0 overOk

theorem enc_eff (e : EffT) : cEff.enc e = encU 9 (zig e.1) ++ (encU 9 (zig e.2.1) ++ (cTag.enc e.2.2.1 ++ cVals.enc e.2.2.2)) := rfl
theorem enc_rec (x : RecT) : cRec.enc x = encL cI64.enc x.1 ++ (cTag.enc x.2.1 ++ (cVals.enc x.2.2.1 ++ (cVals.enc x.2.2.2.1 ++ (encU 9 x.2.2.2.2.length ++ encL cEff.enc x.2.2.2.2)))) := rfl
theorem encL_val : ∀ l : List Val, encL cVal.enc l = encVs l
  | [] => rfl
  | a :: l => by
    show encV a ++ encL cVal.enc l = _
    rw [encL_val l]
    rfl
theorem enc_vals (l : List Val) : cVals.enc l = encU 9 l.length ++ encVs l := by
  show encU 9 l.length ++ encL cVal.enc l = _
  rw [encL_val]
theorem enc_tag (s : List UInt8) : cTag.enc s = encU 9 s.length ++ s.map UInt8.toNat := rfl
theorem rec_ok (x : RecT) : cRec.ok x ↔ ((x.1.length = 10 ∧ ∀ a ∈ x.1, cI64.ok a) ∧ cTag.ok x.2.1 ∧ cVals.ok x.2.2.1 ∧ cVals.ok x.2.2.2.1 ∧ x.2.2.2.2.length ≤ 1000 ∧ ∀ e ∈ x.2.2.2.2, cEff.ok e) ∧ overOk x = true := Iff.rfl
theorem encVs_append : ∀ a b : List Val, encVs (a ++ b) = encVs a ++ encVs b
  | [], b => rfl
  | x :: a, b => by simp only [List.cons_append, encVs, encVs_append a b, List.append_assoc]
theorem encVs_take {l : List Val} {j : Nat} (hj : j < l.length) : encVs (l.take (j + 1)) = encVs (l.take j) ++ encV l[j] := by
  rw [← List.take_append_getElem hj, encVs_append]
  simp [encVs]
theorem encVs_part {l : List Val} {j : Nat} (hj : j < l.length) : (encVs (l.take j)).length + (encV l[j]).length ≤ (encVs l).length := by
  have h2 : l = l.take j ++ l[j] :: l.drop (j + 1) := by rw [← List.drop_eq_getElem_cons hj, List.take_append_drop]
  have h3 := congrArg (fun l => (encVs l).length) h2
  simp only [encVs_append, encVs, List.length_append] at h3
  omega
theorem encV_ge : ∀ a : Val, 1 ≤ (encV a).length
  | .mk k n s l => by unfold encV; simp
theorem encVs_ge : ∀ l : List Val, l.length ≤ (encVs l).length
  | [] => Nat.le_refl _
  | a :: l => by
    have h1 := encV_ge a
    have h2 := encVs_ge l
    unfold encVs
    simp only [List.length_cons, List.length_append]
    omega

/-- From a writer, whose cells are 'S', to one that came of it. -/
def WrS (S : List Nat) (h : Heap) (bv : V) (h' : Heap) (bv' : V) : Prop := ExtX (S ++ slIds bv) h h' ∧ ∀ j ∈ slIds bv', j ∈ slIds bv ∨ h.n ≤ j

theorem WrS.refl (S : List Nat) (h : Heap) (bv : V) : WrS S h bv h bv := ⟨ExtX.refl _ _, fun _ h => .inl h⟩
theorem WrS.trans {S : List Nat} {a b c : Heap} {u v x : V} (h : WrS S a u b v) (k : WrS S b v c x) : WrS S a u c x := by
  refine ⟨h.1.step k.1 fun j hj => ?_, fun j hj => ?_⟩
  · rcases List.mem_append.1 hj with e | hj
    · exact .inl (by simp [e])
    · rcases h.2 j hj with e | e
      · exact .inl (by simp [e])
      · exact .inr e
  · rcases k.2 j hj with e | e
    · exact h.2 j e
    · have := h.1.1; exact .inr (by omega)
theorem WrS.ext0 {S : List Nat} {a b c : Heap} {u v : V} (h : WrS S a u b v) (k : Ext b c) : WrS S a u c v :=
  ⟨h.1.step (k.mono (S' := []) (by simp)) (by simp), h.2⟩
theorem WrS.own {S : List Nat} {h h' : Heap} {bv bv' : V} (k : WrS S h bv h' bv') {id : Nat} {cs : List V} (ho : Own h id cs) (h1 : id ∉ S) (h2 : id ∉ slIds bv) : Own h' id cs ∧ id ∉ slIds bv' :=
  ⟨ho.ext k.1 (by simp [h1, h2]), fun e => by
    rcases k.2 id e with e | e
    · exact h2 e
    · have := ho.1; omega⟩
theorem WrS.z {S : List Nat} {h h' : Heap} {bv bv' : V} (k : WrS S h bv h' bv') {Z : Nat → Prop} (hz : ∀ i, Z i → i < h.n ∧ i ∉ S ∧ i ∉ slIds bv) : ∀ i, Z i → i < h'.n ∧ i ∉ S ∧ i ∉ slIds bv' := fun i z => by
  obtain ⟨h1, h2, h3⟩ := hz i z
  refine ⟨by have := k.1.1; omega, h2, fun e => ?_⟩
  rcases k.2 i e with e | e
  · exact h3 e
  · omega
theorem WrS.zs {S : List Nat} {h h' : Heap} {bv bv' : V} (k : WrS S h bv h' bv') {Z : Nat → Prop} (hz : ∀ i, Z i → i < h.n ∧ i ∉ S ∧ i ∉ slIds bv) : ∀ i, Z i → i ∉ S ++ slIds bv := fun i z e => by
  obtain ⟨h1, h2, h3⟩ := hz i z
  rcases List.mem_append.1 e with e | e
  · exact h2 e
  · exact h3 e
theorem WrS.rsz {S : List Nat} {h h' : Heap} {bv bv' : V} (k : WrS S h bv h' bv') {Z : Nat → Prop} (hz : ∀ i, Z i → i < h.n ∧ i ∉ S ∧ i ∉ slIds bv) {esz : Nat} {v : V} {l : List (List V)} (r : RSz Z h esz v l) : RSz Z h' esz v l :=
  r.extL k.1 (k.zs hz) fun _ z _ => z
theorem WrS.vas {S : List Nat} {h h' : Heap} {bv bv' : V} (k : WrS S h bv h' bv') {Z : Nat → Prop} (hz : ∀ i, Z i → i < h.n ∧ i ∉ S ∧ i ∉ slIds bv) {l : List Val} {lc : List (List V)} (r : VasR Z h l lc) : VasR Z h' l lc :=
  r.ext k.1 (k.zs hz) fun _ z _ => z
/-- A writer: its cell of bytes, its cell of a truth. -/
structure RcSt (h : Heap) (io ib : Nat) (bv : V) (w : List Nat) (b : Bool) : Prop where
  o : Own h io [bv]
  t : Own h ib [.bool b]
  w : Ow h 1 bv (w.map byteC)
  no : io ∉ slIds bv
  nt : ib ∉ slIds bv
  ne : io ≠ ib

theorem RcSt.ext0 {h h' : Heap} {io ib : Nat} {bv : V} {w : List Nat} {b : Bool} (k : RcSt h io ib bv w b) (hE : Ext h h') : RcSt h' io ib bv w b :=
  ⟨k.o.ext0 hE, k.t.ext0 hE, k.w.ext0 hE, k.no, k.nt, k.ne⟩
theorem RcSt.apart {h h' : Heap} {io ib : Nat} {bv bv' : V} {w : List Nat} {b : Bool} (k : RcSt h io ib bv w b) (f : Fr h bv h' bv') : io ∉ slIds bv' ∧ ib ∉ slIds bv' := by
  have h1 := k.o.1
  have h2 := k.t.1
  constructor
  · intro e
    rcases f.2 _ e with e | e
    · exact k.no e
    · omega
  · intro e
    rcases f.2 _ e with e | e
    · exact k.nt e
    · omega
/-- Other bytes in its cell. -/
theorem RcSt.more {h h1 h' : Heap} {io ib : Nat} {bv bv' : V} {w w' : List Nat} {b : Bool} (k : RcSt h io ib bv w b) (f : Fr h bv h1 bv') (ho : Ow h1 1 bv' (w'.map byteC)) (k1 : Own h' io [bv']) (k2 : ExtX [io] h1 h') : RcSt h' io ib bv' w' b ∧ WrS [io, ib] h bv h' bv' := by
  obtain ⟨n1, n2⟩ := k.apart f
  refine ⟨⟨k1, (k.t.ext f.1 k.nt).ext k2 (by have := k.ne; simp; omega), ho.ext k2 (fun j hj e => by simp at e; subst e; exact n1 hj), n1, n2, k.ne⟩, (f.1.mono fun j hj => by simp [hj]).trans (k2.mono fun j hj => by simp at hj; simp [hj]), f.2⟩
/-- Another truth in its cell. -/
theorem RcSt.told {h h' : Heap} {io ib : Nat} {bv : V} {w : List Nat} {b c : Bool} (k : RcSt h io ib bv w b) (k1 : Own h' ib [.bool c]) (k2 : ExtX [ib] h h') : RcSt h' io ib bv w c ∧ WrS [io, ib] h bv h' bv := by
  refine ⟨⟨k.o.ext k2 (by have := k.ne; simp; omega), k1, k.w.ext k2 (fun j hj e => by simp at e; subst e; exact k.nt hj), k.no, k.nt, k.ne⟩, k2.mono fun j hj => by simp at hj; simp [hj], fun j h => .inl h⟩

/-- From a place up to another one. -/
theorem w_slLH {T : Nat → Option AFunc} {O : CallF} {vs ls : List V} {h : Heap} {Q : List V → Heap → Prop} {os : List AOp} {esz a b : Nat} {x i j : Opd} {ka kb : IntKind} {v : V} {l : List (List V)} (hx : ev ls vs x = some v) (hi : ev ls vs i = some (.int ka (.ofNat a))) (hj : ev ls vs j = some (.int kb (.ofNat b))) (ho : Ow h esz v l) (hab : a ≤ b) (hb : b ≤ l.length)
    (k1 : ∀ v', Ow h esz v' ((l.take b).drop a) → (∀ j ∈ slIds v', j ∈ slIds v) → WPo T O os (v' :: ls) vs h Q) : WPo T O (⟨none, .slL esz x (some i) (some j) none⟩ :: os) ls vs h Q := by
  obtain ⟨v', e1, e2, e3⟩ := slV_ok (lo := some (.int ka (.ofNat a))) (hi := some (.int kb (.ofNat b))) (a := a) (b := b) ho (by
    have b1 : Nat.ble a b = true := nble.2 hab
    have b2 : Nat.ble b l.length = true := nble.2 hb
    simp only [bnds, natOf, b1, Option.getD_none, b2, Bool.and_self]) hab hb
  refine w_op (v := v') (h1 := h) ?_ (k1 v' e2 e3)
  show o_slL esz x (some i) (some j) none ls vs h = _
  simp only [o_slL, hx, evo, hi, hj, e1, keep]

/-- What record bytes are read as. -/
theorem rec_dec {bs : List Nat} {ns : List Int} (h1 : ∀ x l, (cRep cI64 10).dec bs = some (x, l) → ns = x) (h5 : rst (cRec0.dec bs) = some []) (ho : 0 ≤ ns.getD 5 0 ∧ ns.getD 5 0 ≤ 4) : ∃ R, cRec.dec bs = some (R, []) := by
  cases hd : cRec0.dec bs with
  | none => rw [hd] at h5; cases h5
  | some y =>
    obtain ⟨R, l⟩ := y
    rw [hd] at h5
    simp only [rst, Option.some.injEq] at h5
    subst h5
    obtain ⟨⟨l1, k1⟩, _⟩ := aft_seq (c := cRep cI64 10) (σ := some bs) hd
    have hn := h1 _ _ k1
    refine ⟨R, ?_⟩
    show dMap (fun a => if overOk a = true then some a else none) (cRec0.dec bs) = _
    rw [hd]
    have : overOk R = true := by
      unfold overOk
      rw [← hn]
      exact decide_eq_true ho
    simp only [dMap, this, if_true]
theorem rst_rec (bs : List Nat) : rst (cRec0.dec bs) = rst (aft (cList cEff 1000 (by decide)).dec (rst (aft cVals.dec (rst (aft cVals.dec (rst (aft cTag.dec (rst ((cRep cI64 10).dec bs))))))))) := by
  show rst (aft cRec0.dec (some bs)) = _
  unfold cRec0
  rw [rst_seq, rst_seq, rst_seq, rst_seq]
  rfl

/-- How many pieces are left, and what is behind a value. -/
def rst3 {α : Type} : Option (α × Nat × List Nat) → Option (Nat × List Nat)
  | none => none
  | some (_, n, r) => some (n, r)

theorem rep3 {f : Nat → List Nat → Option (Val × Nat × List Nat)} {m left : Nat} {l : List Nat} : rst3 (repV f (m + 1) left l) = match rst3 (f left l) with
    | none => none
    | some (n, r) => rst3 (repV f m n r) := by
  simp only [repV]
  cases f left l with
  | none => rfl
  | some y =>
    obtain ⟨a, n, r⟩ := y
    simp only [rst3]
    cases repV f m n r with
    | none => rfl
    | some z => obtain ⟨x, n2, r2⟩ := z; rfl
theorem dec_0 {left : Nat} {l : List Nat} : rst3 (decV 0 left l) = none := by unfold decV; rfl
theorem dec_n {lv : Nat} {l : List Nat} : rst3 (decV lv 0 l) = none := by cases lv <;> (unfold decV; rfl)
theorem dec_e {lv left : Nat} : rst3 (decV lv left []) = none := by
  cases lv with
  | zero => exact dec_0
  | succ lv => cases left <;> (unfold decV; rfl)
theorem dec_1 {lv left k : Nat} {r : List Nat} (hk : k = 1) : rst3 (decV (lv + 1) (left + 1) (k :: r)) = match dU 9 true r with
    | none => none
    | some (_, r') => some (left, r') := by
  subst hk
  unfold decV
  rw [if_neg (by decide), if_neg (by decide), if_neg (by decide), if_pos (by decide)]
  cases dU 9 true r with
  | none => rfl
  | some y => obtain ⟨m, r'⟩ := y; simp only; rw [if_neg (by rintro ⟨h, _⟩; cases h)]; rfl
theorem dec_5 {lv left k : Nat} {r : List Nat} (hk : k = 5) : rst3 (decV (lv + 1) (left + 1) (k :: r)) = match dU 9 true r with
    | none => none
    | some (m, r') => if zag m < 0 then none else some (left, r') := by
  subst hk
  unfold decV
  rw [if_neg (by decide), if_neg (by decide), if_neg (by decide), if_pos (by decide)]
  cases dU 9 true r with
  | none => rfl
  | some y =>
    obtain ⟨m, r'⟩ := y
    simp only
    by_cases h : zag m < 0
    · rw [if_pos ⟨trivial, h⟩, if_pos h]; rfl
    · rw [if_neg fun x => h x.2, if_neg h]; rfl
theorem dec_2 {lv left k : Nat} {r : List Nat} (hk : k = 2) : rst3 (decV (lv + 1) (left + 1) (k :: r)) = match r with
    | [] => none
    | x :: r' => if x ≤ 1 then some (left, r') else none := by
  subst hk
  unfold decV
  rw [if_pos rfl]
  cases r with
  | nil => rfl
  | cons x r' =>
    simp only
    by_cases h : x ≤ 1
    · rw [if_pos h, if_pos h]; rfl
    · rw [if_neg h, if_neg h]; rfl
theorem dec_3 {lv left k : Nat} {r : List Nat} (hk : k = 3) : rst3 (decV (lv + 1) (left + 1) (k :: r)) = match (cBlob 4096 (by decide)).dec r with
    | none => none
    | some (_, r') => some (left, r') := by
  subst hk
  unfold decV
  rw [if_neg (by decide), if_pos rfl]
  simp only [cBlob]
  cases dU 9 true r with
  | none => rfl
  | some y =>
    obtain ⟨m, r'⟩ := y
    simp only
    by_cases h : m ≤ 4096 ∧ m ≤ r'.length
    · rw [if_pos h, if_pos h]; rfl
    · rw [if_neg h, if_neg h]; rfl
theorem dec_4 {lv left k : Nat} {r : List Nat} (hk : k = 4) : rst3 (decV (lv + 1) (left + 1) (k :: r)) = match dU 9 true r with
    | none => none
    | some (m, r') => if m ≤ 256 then rst3 (repV (decV lv) m left r') else none := by
  subst hk
  conv => lhs; unfold decV
  rw [if_neg (by decide), if_neg (by decide), if_pos rfl]
  cases dU 9 true r with
  | none => rfl
  | some y =>
    obtain ⟨m, r'⟩ := y
    simp only
    by_cases h : m ≤ 256
    · rw [if_pos h, if_pos h]
      cases repV (decV lv) m left r' with
      | none => rfl
      | some z => obtain ⟨x, n2, r2⟩ := z; rfl
    · rw [if_neg h, if_neg h]; rfl
theorem dec_x {lv left k : Nat} {r : List Nat} (h1 : k ≠ 1) (h2 : k ≠ 2) (h3 : k ≠ 3) (h4 : k ≠ 4) (h5 : k ≠ 5) : rst3 (decV (lv + 1) (left + 1) (k :: r)) = none := by
  unfold decV
  rw [if_neg h2, if_neg h3, if_neg h4, if_neg (by omega)]
  rfl

/-- A getter of values over 'bs': how many pieces are left, and what is left to be read; none: it failed. -/
def GtSt (hb h : Heap) (g : Nat) (b : V) (bs : List Nat) : Option (Nat × List Nat) → Prop
  | some (left, rest) => hb.n ≤ g ∧ Ext hb h ∧ left ≤ 256 ∧ ∃ a, a ≤ bs.length ∧ rest = bs.drop a ∧ Own h g [b, .int .i64 (.ofNat a), .int .i64 (.ofNat left), .int .i64 0]
  | none => hb.n ≤ g ∧ Ext hb h ∧ ∃ a x e : Int, Own h g [b, .int .i64 a, .int .i64 x, .int .i64 e] ∧ e ≠ 0
theorem GtSt.base {hb h : Heap} {g : Nat} {b : V} {bs : List Nat} {σ : Option (Nat × List Nat)} (k : GtSt hb h g b bs σ) : hb.n ≤ g ∧ Ext hb h ∧ g < h.n := by
  cases σ with
  | none => obtain ⟨h1, h2, a, x, e, h3, _⟩ := k; exact ⟨h1, h2, h3.1⟩
  | some y => obtain ⟨h1, h2, _, a, _, _, h3⟩ := k; exact ⟨h1, h2, h3.1⟩
theorem GtSt.ext {S : List Nat} {hb h h' : Heap} {g : Nat} {b : V} {bs : List Nat} {σ : Option (Nat × List Nat)} (k : GtSt hb h g b bs σ) (hE : ExtX S h h') (hr : g ∉ S) (hS : ∀ j ∈ S, hb.n ≤ j) : GtSt hb h' g b bs σ := by
  have hX : ∀ {h}, Ext hb h → ExtX S h h' → Ext hb h' := fun e k => e.step k fun j hj => .inr (hS j hj)
  cases σ with
  | none =>
    obtain ⟨h1, h2, a, x, e, h3, h4⟩ := k
    exact ⟨h1, hX h2 hE, a, x, e, h3.ext hE hr, h4⟩
  | some y =>
    obtain ⟨h1, h2, h5, a, ha, hl, h3⟩ := k
    exact ⟨h1, hX h2 hE, h5, a, ha, hl, h3.ext hE hr⟩
theorem GtSt.ext0 {hb h h' : Heap} {g : Nat} {b : V} {bs : List Nat} {σ : Option (Nat × List Nat)} (k : GtSt hb h g b bs σ) (hE : Ext h h') : GtSt hb h' g b bs σ := k.ext hE (by simp) (by simp)

/-- A result that is an object's cells. -/
theorem w_rtc {vs : List V} {h : Heap} {rs : List ARes} {i n id : Nat} {cs : List V} {l : List V} {Q : V → Heap → Prop} (hv : nth vs i = some (.ptr id 0 0 n)) (ho : Own h id cs) (hl : cs.length = n) (hr : resV vs h rs = some l) (q : Q (packV (.agg cs :: l)) h) : Rt (.cell i true n :: rs) Q vs h := by
  refine ⟨.agg cs :: l, ?_, q⟩
  have e : rd h true n (.ptr id 0 0 n) = some (.agg cs) := by
    have := (ho.at hl).agg (n := n) (by omega)
    rwa [List.take_of_length_le (by omega)] at this
  simp only [resV, hv, e, hr]

/-- One less, of a number without a sign. -/
theorem w_dec64 {T : Nat → Option AFunc} {O : CallF} {vs ls : List V} {h : Heap} {Q : List V → Heap → Prop} {os : List AOp} {q : EqK} {x : Opd} {m : Nat} (hx : ev ls vs x = some (.int .u64 (.ofNat (m + 1)))) (hm : m < 9223372036854775808) (k1 : WPo T O os (.int .u64 (.ofNat m) :: ls) vs h Q) : WPo T O (⟨none, .bin .sub q x (.cst (.int .u64 (.ofNat 1)))⟩ :: os) ls vs h Q := by
  refine w_op (o_bin_v hx rfl ?_) k1
  have e : IntKind.u64.wrap (Int.ofNat (m + 1) - Int.ofNat 1) = Int.ofNat m := by
    rw [wrap_u64]
    show (((m + 1 : Nat) : Int) - ((1 : Nat) : Int)) % _ = ((m : Nat) : Int)
    omega
  simp only [binV, if_true, intBin, e]
theorem drop_back {p bs r : List Nat} (h : p ++ r = bs) : r = bs.drop (bs.length - r.length) := by
  subst h
  rw [List.length_append, Nat.add_sub_cancel, List.drop_left]

/-- A record's reader over 'bs': what is left to be read; none: it failed. -/
def RaSt (hb h : Heap) (r : Nat) (b : V) (bs : List Nat) : Option (List Nat) → Prop
  | some rest => hb.n ≤ r ∧ Ext hb h ∧ ∃ a, a ≤ bs.length ∧ rest = bs.drop a ∧ Own h r [b, .int .i64 (.ofNat a), .bool false]
  | none => hb.n ≤ r ∧ Ext hb h ∧ ∃ a : Nat, a ≤ bs.length ∧ Own h r [b, .int .i64 (.ofNat a), .bool true]
theorem RaSt.base {hb h : Heap} {r : Nat} {b : V} {bs : List Nat} {σ : Option (List Nat)} (k : RaSt hb h r b bs σ) : hb.n ≤ r ∧ Ext hb h ∧ r < h.n := by
  cases σ with
  | none => obtain ⟨h1, h2, a, _, h3⟩ := k; exact ⟨h1, h2, h3.1⟩
  | some l => obtain ⟨h1, h2, a, _, _, h3⟩ := k; exact ⟨h1, h2, h3.1⟩
theorem RaSt.ext {S : List Nat} {hb h h' : Heap} {r : Nat} {b : V} {bs : List Nat} {σ : Option (List Nat)} (k : RaSt hb h r b bs σ) (hE : ExtX S h h') (hr : r ∉ S) (hS : ∀ j ∈ S, hb.n ≤ j) : RaSt hb h' r b bs σ := by
  have hX : ∀ {h}, Ext hb h → ExtX S h h' → Ext hb h' := fun e k => e.step k fun j hj => .inr (hS j hj)
  cases σ with
  | none =>
    obtain ⟨h1, h2, a, ha, h3⟩ := k
    exact ⟨h1, hX h2 hE, a, ha, h3.ext hE hr⟩
  | some l =>
    obtain ⟨h1, h2, a, ha, hl, h3⟩ := k
    exact ⟨h1, hX h2 hE, a, ha, hl, h3.ext hE hr⟩
theorem RaSt.ext0 {hb h h' : Heap} {r : Nat} {b : V} {bs : List Nat} {σ : Option (List Nat)} (k : RaSt hb h r b bs σ) (hE : Ext h h') : RaSt hb h' r b bs σ := k.ext hE (by simp) (by simp)
theorem rst_rep {α : Type} {d : List Nat → Option (α × List Nat)} {m : Nat} {l : List Nat} : rst (dRep d (m + 1) l) = match rst (d l) with
    | none => none
    | some r => rst (dRep d m r) := by
  simp only [dRep]
  cases d l with
  | none => rfl
  | some y =>
    obtain ⟨a, r⟩ := y
    simp only [rst]
    cases dRep d m r with
    | none => rfl
    | some z => rfl
theorem rst_val (l : List Nat) : rst (cVal.dec l) = match rst3 (decV 16 256 l) with
    | none => none
    | some (_, r) => some r := by
  show rst (match decV 16 256 l with
    | none => none
    | some (v, _, r) => some (v, r)) = _
  cases decV 16 256 l with
  | none => rfl
  | some y => rfl
def iV (n : Int) : V := .int .i64 n
theorem splice_next {ns : List Int} {m : Nat} {x : Int} {z : V} : splice (ns.map iV ++ List.replicate (m + 1) z) (0 + ns.length * 1) [iV x] = (ns ++ [x]).map iV ++ List.replicate m z := by
  have e : 0 + ns.length * 1 = (ns.map iV).length + 0 := by rw [List.length_map]; omega
  rw [e, splice_app_r]
  simp [splice, over, List.replicate_succ]
theorem list10 {α : Type} : ∀ {l : List α}, l.length = 10 → ∃ a b c d e f g h i j, l = [a, b, c, d, e, f, g, h, i, j]
  | [a, b, c, d, e, f, g, h, i, j], _ => ⟨a, b, c, d, e, f, g, h, i, j, rfl⟩

/-- A place of an array of numbers. -/
theorem w_idxI {T : Nat → Option AFunc} {O : CallF} {vs ls : List V} {h : Heap} {Q : List V → Heap → Prop} {os : List AOp} {len j : Nat} {x i : Opd} {k : IntKind} {ns : List Int} (hx : ev ls vs x = some (.agg (ns.map iV))) (hi : ev ls vs i = some (.int k (.ofNat j))) (hl : ns.length = len) (hj : j < ns.length) (k1 : WPo T O os (.int .i64 ns[j] :: ls) vs h Q) : WPo T O (⟨none, .idxA false len 1 x i⟩ :: os) ls vs h Q := by
  refine w_op ?_ k1
  show o_idxA false len 1 x i ls vs h = _
  have e : nth (ns.map iV) (j * 1) = some (iV ns[j]) := by
    rw [nth_eq, Nat.mul_one, List.getElem?_map, List.getElem?_eq_getElem hj]
    rfl
  simp only [o_idxA, hx, hi, idxNat, natOf, nblt.2 (hl ▸ hj : j < len), ldC, e, keep]
  rfl

def EffZ (Z : Nat → Prop) (h : Heap) (c : List V) (e : EffT) : Prop := ∃ v lc, c = [.int .i64 e.1, .int .i64 e.2.1, .str e.2.2.1, v] ∧ RSz Z h 4 v lc ∧ VasR Z h e.2.2.2 lc
theorem EffZ.ext {Z : Nat → Prop} {S : List Nat} {h h' : Heap} {c : List V} {e : EffT} (r : EffZ Z h c e) (hE : ExtX S h h') (hs : ∀ j, Z j → j ∉ S) : EffZ Z h' c e := by
  obtain ⟨v, lc, e1, h1, h2⟩ := r
  exact ⟨v, lc, e1, h1.extL hE hs fun _ z _ => z, h2.ext hE hs fun _ z _ => z⟩
theorem EffZ.shape {Z : Nat → Prop} {h : Heap} {c : List V} {e : EffT} (r : EffZ Z h c e) : c.length = 4 ∧ allOne c = true := by
  obtain ⟨v, lc, rfl, h1, h2⟩ := r
  exact ⟨rfl, by simp only [allOne, h1.1.one]; rfl⟩

/-- A record's cells. -/
def RecR (Z : Nat → Prop) (h : Heap) (c : List V) (R : RecT) : Prop :=
  ∃ n0 n1 n2 n3 n4 n5 n6 n7 n8 n9 tag args state effs av sv xv la ls le, c = [.int .i64 n0, .int .i64 n1, .int .i64 n2, .int .i64 n3, .int .i64 n4, .str tag, av, .int .u8 n5, .int .i64 n6, .int .i64 n7, xv, .int .i64 n8, sv, .int .i64 n9] ∧
    R = ([n0, n1, n2, n3, n4, n5, n6, n7, n8, n9], tag, args, state, effs) ∧ 0 ≤ n5 ∧ RSz Z h 4 av la ∧ VasR Z h args la ∧ RSz Z h 4 sv ls ∧ VasR Z h state ls ∧ RSz Z h 4 xv le ∧ All2 (EffZ Z h) le effs
theorem RecR.ext {Z : Nat → Prop} {S : List Nat} {h h' : Heap} {c : List V} {R : RecT} (r : RecR Z h c R) (hE : ExtX S h h') (hs : ∀ j, Z j → j ∉ S) : RecR Z h' c R := by
  obtain ⟨n0, n1, n2, n3, n4, n5, n6, n7, n8, n9, tag, args, state, effs, av, sv, xv, la, ls, le, e1, e2, e3, r1, v1, r2, v2, r3, a3⟩ := r
  exact ⟨n0, n1, n2, n3, n4, n5, n6, n7, n8, n9, tag, args, state, effs, av, sv, xv, la, ls, le, e1, e2, e3, r1.extL hE hs fun _ z _ => z, v1.ext hE hs fun _ z _ => z, r2.extL hE hs fun _ z _ => z, v2.ext hE hs fun _ z _ => z, r3.extL hE hs fun _ z _ => z, a3.mono fun _ _ _ _ k => k.ext hE hs⟩
theorem RecR.ext0 {Z : Nat → Prop} {h h' : Heap} {c : List V} {R : RecT} (r : RecR Z h c R) (hE : Ext h h') : RecR Z h' c R := r.ext hE (by simp)
theorem RecR.shape {Z : Nat → Prop} {h : Heap} {c : List V} {R : RecT} (r : RecR Z h c R) : c.length = 14 ∧ allOne c = true := by
  obtain ⟨n0, n1, n2, n3, n4, n5, n6, n7, n8, n9, tag, args, state, effs, av, sv, xv, la, ls, le, rfl, e2, e3, r1, v1, r2, v2, r3, a3⟩ := r
  exact ⟨rfl, by simp only [allOne, r1.1.one, r2.1.one, r3.1.one]; rfl⟩

def I64 (n : Int) : Prop := -9223372036854775808 ≤ n ∧ n < 9223372036854775808
/-- Its numbers are of their kinds. -/
def TyR (R : RecT) : Prop := (∀ n ∈ R.1, I64 n) ∧ (∀ a ∈ R.2.2.1, RngV a) ∧ (∀ a ∈ R.2.2.2.1, RngV a) ∧ ∀ e ∈ R.2.2.2.2, I64 e.1 ∧ I64 e.2.1 ∧ ∀ a ∈ e.2.2.2, RngV a

theorem w_strN {T : Nat → Option AFunc} {O : CallF} {vs ls : List V} {h : Heap} {Q : List V → Heap → Prop} {os : List AOp} {q : EqK} {x y : Opd} {a b : List UInt8} (hx : ev ls vs x = some (.str a)) (hy : ev ls vs y = some (.str b)) (k1 : a ≠ b → WPo T O os (.bool true :: ls) vs h Q) (k2 : a = b → WPo T O os (.bool false :: ls) vs h Q) : WPo T O (⟨none, .bin .neq q x y⟩ :: os) ls vs h Q :=
  w_bool (o_bin_v hx hy rfl) (fun h => k1 fun e => by rw [eqBytes_iff.2 e] at h; cases h) fun h => k2 (by
    cases e : eqBytes a b with
    | true => exact eqBytes_iff.1 e
    | false => rw [e] at h; cases h)
end Am
