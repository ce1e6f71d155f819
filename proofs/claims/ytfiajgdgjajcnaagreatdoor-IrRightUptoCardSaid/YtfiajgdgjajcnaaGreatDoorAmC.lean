/-
  An abstract machine for Go programs, sound for the model: part C. Conditions: none beyond those that each theorem states.
-/
import Derived.ChangeSame
import Derived.RowKit
import Derived.Lib.LaidTab
import Derived.ChangeReads
import Derived.ReadAgain
import Derived.Below
import Derived.Lib.Join
import Derived.Test.YtfiajgdgjajcnaaGreatDoorAmB
set_option linter.unusedSimpArgs false
set_option linter.unusedVariables false
namespace Am
open Go
inductive SI where
 | ans (f:Nat) (v:V)
 | val (v:V)
inductive LE where
 | call (f:Nat) (args:List V) (v:V)
 | bin (op:BinOp) (q:EqK) (x y v:V)
def LE.ok (P:CallF):LE→Prop
 | .call f args v=>∀ h,P f args h=some (v,h)
 | .bin op q x y v=>binV op q x y=some v
structure Sc where
 script:List SI
 log:List LE
abbrev CallL:=Nat→List V→Heap→Sc→Option (V×Heap×Sc)
def orO (P O:CallF):CallF:=fun f args h=>match P f args h with
 | some r=>some r
 | none=>O f args h
theorem orO_ok {C:Ctx} {P O:CallF} (hP:CallOk C P) (hO:CallOk C O):CallOk C (orO P O):=by
 intro f args H v H' h
 unfold orO at h
 split at h
 ·rename_i r hr
  rw [h] at hr
  exact hP _ _ _ _ _ hr
 ·exact hO _ _ _ _ _ h
def ScExt (s s':Sc):Prop:=∃ l,s'.log=l++s.log
theorem ScExt.refl (s:Sc):ScExt s s:=⟨[],rfl⟩
theorem ScExt.trans {a b c:Sc} (h:ScExt a b) (k:ScExt b c):ScExt a c:=by
 obtain ⟨l,hl⟩:=h
 obtain ⟨m,hm⟩:=k
 exact ⟨m++l,by rw [hm,hl,List.append_assoc]⟩
variable {P:CallF} {callL:CallL} {call:CallF}
end Am
namespace Am
open Go
noncomputable def opcR (call:CallF) (k:AK):List V→List V→Heap→Res:=
 AK.rec (motive:=fun _=>List V→List V→Heap→Res)
  (fun x=>o_mv x)
  (fun c a b=>o_pick c a b)
  (fun zero=>o_alloc zero)
  (fun size x=>o_box size x)
  (fun zero parts=>o_build zero parts)
  (fun n esz zero parts=>o_bslice n esz zero parts)
  (fun ag n a=>o_load ag n a)
  (fun n a x=>o_store n a x)
  (fun x=>o_nilck x)
  (fun op q x y=>o_bin op q x y)
  (fun op x=>o_un op x)
  (fun k x=>o_toInt k x)
  (fun x=>o_strId x)
  (fun x=>o_toStr x)
  (fun x=>o_toBytes x)
  (fun t x=>o_mkI t x)
  (fun f first caps=>o_mkF f first caps)
  (o_mkM)
  (fun esz bytes zero l c=>o_mkS esz bytes zero l c)
  (fun x lo hi=>o_slS x lo hi)
  (fun esz x lo hi mx=>o_slL esz x lo hi mx)
  (fun n esz x lo hi=>o_slA n esz x lo hi)
  (fun off x=>o_fadr off x)
  (fun ag n off x=>o_fld ag n off x)
  (fun esz x i=>o_iadr esz x i)
  (fun len esz x i=>o_iadrA len esz x i)
  (fun x i=>o_idxS x i)
  (fun ag len esz x i=>o_idxA ag len esz x i)
  (fun kk zero ok m k=>o_look kk zero ok m k)
  (fun kk m k x=>o_mput kk m k x)
  (fun kk m k=>o_mdel kk m k)
  (fun k x=>o_len k x)
  (fun x l=>o_mx x l)
  (fun x l=>o_mn x l)
  (fun esz s x=>o_app esz s x)
  (fun esz zero s n=>o_appz esz zero s n)
  (fun esz d s=>o_copy esz d s)
  (fun i x=>o_ext i x)
  (fun f args=>o_call call f args)
  (fun f args=>o_callv call f args)
  (fun x=>o_range x)
  (fun _u0=>fun _ _ _=>none)
  (fun t zero ok x=>o_tassert t zero ok x)
  (fun i ag n a=>o_chk i ag n a)
  (fun i kk zero ok m k=>o_chkLook i kk zero ok m k)
  (fun i m=>o_chkLen i m)
  (fun i=>o_snap i)
  (fun i j=>o_chkObj i j)
  (fun s c=>o_xcount s c)
  (fun s c=>o_xindex s c)
  (fun a b=>o_xcmp a b)
  (o_die) k
theorem opcR_eq (call:CallF) (k:AK):opcR call k=opc call k:=by cases k <;> rfl
noncomputable def stepR (call:CallF) (o:AOp) (ls vs:List V) (h:Heap):Res:=
 match wantedV ls o.g with
 | none=>none
 | some false=>some (.tuple [],h)
 | some true=>opcR call o.k ls vs h
theorem stepR_eq (call:CallF) (o:AOp) (ls vs:List V) (h:Heap):stepR call o ls vs h=stepO call o ls vs h:=by
 unfold stepR stepO
 rw [opcR_eq] <;> rfl
noncomputable def runOpsR (call:CallF) (vs:List V) (l:List AOp):List V→Heap→Option (List V×Heap):=
 List.rec (motive:=fun _=>List V→Heap→Option (List V×Heap)) (fun ls h=>some (ls,h)) (fun o _ ih ls h=>match stepR call o ls vs h with
  | some (v,h')=>ih (v :: ls) h'
  | none=>none) l
theorem runOpsR_eq (call:CallF) (vs:List V):∀ (l:List AOp) (ls:List V) (h:Heap),runOpsR call vs l ls h=runOps call l ls vs h
 | [],_,_=>rfl
 | o :: l,ls,h=>by
  show (match stepR call o ls vs h with | some (v,h')=>runOpsR call vs l (v :: ls) h' | none=>none)=_
  rw [stepR_eq]
  unfold runOps
  cases stepO call o ls vs h with
  | none=>rfl
  | some r=>
   obtain ⟨v,h'⟩:=r
   exact runOpsR_eq call vs l _ _
noncomputable def x_regR (call:CallF) (ops:List AOp) (outs:List (Nat×Nat)) (vs:List V) (h:Heap):Out:=
 match runOpsR call vs ops [] h with
 | some (ls,h')=>match outsV ls outs vs with
  | some vs'=>some (.normal,vs',h')
  | none=>none
 | none=>none
theorem x_regR_eq (call:CallF) (ops:List AOp) (outs:List (Nat×Nat)):x_regR call ops outs=x_reg call ops outs:=by
 funext vs h
 unfold x_regR x_reg
 rw [runOpsR_eq] <;> rfl
noncomputable def iterR (f:List V→Heap→Out) (n:Nat):List V→Heap→Out:=
 Nat.rec (motive:=fun _=>List V→Heap→Out) (fun _ _=>none) (fun _ ih vs h=>match f vs h with
 | some (.normal,vs',h')=>ih vs' h'
 | some (.exit i,vs',h')=>some (.exit i,vs',h')
 | some (.ret,vs',h')=>some (.ret,vs',h')
 | none=>none) n
theorem iterR_eq (f:List V→Heap→Out):∀ n,iterR f n=iter f n
 | 0=>by funext vs h;rfl
 | n+1=>by
  funext vs h
  show (match f vs h with | some (.normal,vs',h')=>iterR f n vs' h' | some (.exit i,vs',h')=>some (.exit i,vs',h') | some (.ret,vs',h')=>some (.ret,vs',h') | none=>none)=_
  rw [iterR_eq f n]
  rfl
noncomputable def execR (call:CallF) (fuel:Nat) (c:AC):List V→Heap→Out:=
 AC.rec (motive:=fun _=>List V→Heap→Out) (fun vs h=>some (.normal,vs,h)) (fun ops outs=>x_regR call ops outs) (fun ops s1 s2 outs=>x_reg2 call ops s1 s2 outs) (fun _ _ fa fb=>x_seq fa fb) (fun c _ _ fa fb=>x_cond c fa fb) (fun s a _=>x_coin s a)
  (fun id _ fb=>x_block id fb) (fun _ fb=>iterR fb fuel) (fun id vs h=>some (.exit id,vs,h)) (fun vs h=>some (.ret,vs,h)) (fun _ _=>none) c
theorem execR_eq (call:CallF) (fuel:Nat):∀ c,execR call fuel c=exec call fuel c
 | .skip=>rfl
 | .reg ops outs=>x_regR_eq call ops outs
 | .reg2 ..=>rfl
 | .seq a b=>by
  show x_seq (execR call fuel a) (execR call fuel b)=_
  rw [execR_eq call fuel a,execR_eq call fuel b]
  rfl
 | .cond c a b=>by
  show x_cond c (execR call fuel a) (execR call fuel b)=_
  rw [execR_eq call fuel a,execR_eq call fuel b]
  rfl
 | .coin ..=>rfl
 | .block id b=>by
  show x_block id (execR call fuel b)=_
  rw [execR_eq call fuel b]
  rfl
 | .loop b=>by
  show iterR (execR call fuel b) fuel=_
  rw [execR_eq call fuel b,iterR_eq]
  rfl
 | .exit _=>rfl
 | .ret=>rfl
 | .stuck=>rfl
noncomputable def bodyR (call:CallF) (fuel:Nat) (a:AFunc) (args:List V) (h:Heap):Option (V×Heap):=
 match Nat.beq args.length a.nparams with
 | false=>none
 | true=>match execR call fuel a.code (initV a.slots args) h with
  | some (.exit _,_,_)=>none
  | some (_,vs,h')=>match resV vs h' a.res with
   | some l=>some (packV l,h')
   | none=>none
  | none=>none
theorem bodyR_eq (call:CallF) (fuel:Nat) (a:AFunc) (args:List V) (h:Heap):bodyR call fuel a args h=body call fuel a args h:=by
 unfold bodyR body
 rw [execR_eq] <;> rfl
noncomputable def runR (T:Nat→Option AFunc) (O:CallF) (n:Nat):CallF:=
 Nat.rec (motive:=fun _=>CallF) (fun _ _ _=>none) (fun n ih f args h=>match O f args h with
  | some r=>some r
  | none=>match T f with
   | some a=>bodyR ih n a args h
   | none=>none) n
theorem runR_eq (T:Nat→Option AFunc) (O:CallF):∀ n,runR T O n=run T O n
 | 0=>by funext f args h;rfl
 | n+1=>by
  funext f args h
  show (match O f args h with | some r=>some r | none=>match T f with | some a=>bodyR (runR T O n) n a args h | none=>none)=_
  rw [runR_eq T O n]
  simp only [bodyR_eq]
  rfl
theorem memo_runR {P:Program} {glob:Nat→Option V} {T:Nat→Option AFunc} {O:CallF} (hm:P.follows .mixedOrders=true) (hg:∀ g v,glob g=some v→Flat (.vptr v 0)) (hT:TableOk P glob T) (hO:CallOk ⟨P,glob⟩ O) {f:Nat} {args:List V} {u:V} (n d:Nat)
  (ha:V.flatBL args=true) (h:((runR T O n f args Heap.empty).bind fun r=>flatV r.2 d r.1)=some u):Memo.ok ⟨P,glob⟩ ⟨f,args,u⟩:=
 memo_run hm hg hT hO n d ha (by rw [← runR_eq];exact h)
end Am
namespace Am
open Go Go.ChangeShapes Go.WideShapes
structure Still (W W':World):Prop where
 size:W.heap.size≤W'.heap.size
 heap:∀ b,b<W.heap.size→W'.heap[b]? = W.heap[b]?
 os:W'.os=W.os
 output:W'.output=W.output
theorem Good.still {n:Nat} {E E':Env} {w w':World} (h:Good n E w E' w') (hE:∀ id ver,E.mu id ver=none):Still w w':=
 ⟨h.size,fun b hb=>(h.frame b hb (owns_none hE b)).1,h.os,h.output⟩
theorem Still.kept {W W':World} (h:Still W W') (may:MemPlace→Prop):W.keptBut W' may:=by
 refine ⟨h.os,h.output,fun i hi=>?_⟩
 rw [h.heap i hi]
 cases W.heap[i]? with
 | none=>rfl
 | some o=>
  cases o with
  | cells c t fr=>exact ⟨rfl,rfl,rfl,fun _ _=>rfl⟩
  | map es clock=>exact Or.inr ⟨rfl,rfl⟩
  | _=>rfl
theorem Still.frozen {W W':World} (h:Still W W') {a:Addr} (ha:a.block<W.heap.size):W'.frozen? a=W.frozen? a:=by
 unfold World.frozen?
 rw [h.heap _ ha]
theorem post_of_still {Hd:Type} {enc:TypeId×Value→Hd} {P:Program} {f:Func} {s:ChangeSpec} {apart fresh handsOn again:Bool} {W W':World} {args:Array Value} {v:Value} {ds gs:List (DataW Hd)} {before pa pv:List MemPlace}
  (hW:DataW.Whole enc P f.params.toList s.vars apart W args.toList ds gs before)
  (hres:∀ (b:Nat) (sp:Nat→Bool) (hd:Bool),DataW.TrodAll enc P W' b sp hd f.resultTypes.toList (v.resultList f.resultTypes.size) (s.fn Hd (ds++gs)).results [])
  (hargs:∀ sp:Nat→Bool,(∀ p∈before,sp p.block=true)→DataW.TrodAll enc P W' 0 sp true f.params.toList args.toList (s.fn Hd (ds++gs)).args pa)
  (hvars:∀ sp:Nat→Bool,(∀ p∈before,sp p.block=true)→DataW.TrodVars enc P W' sp s.vars (s.fn Hd (ds++gs)).vars pv)
  (hps:before=pa++pv) (hst:Still W W')
  (hok:∀ (j:Nat) (t:TypeId) (r:Value),f.resultTypes[j]? = some t→(v.resultList f.resultTypes.size)[j]? = some r→Value.okWide P W' .any 0 t r) :
  s.post enc P f apart fresh handsOn again W args v W':=by
 have hlt:∀ p∈before,p.block<W.heap.size:=fun p hp=>hW.lt p hp
 have hold:∀ p∈before,(fun b=>decide (b<W.heap.size)) p.block=true:=fun p hp=>by simpa using hW.lt p hp
 refine ⟨ds,gs,before,[],pa,pv,hW,hres _ _ _,hargs _ hold,hvars _ hold,World.keptBut_mono (fun p hp=>⟨hp,?_⟩) (hst.kept (·∈before)),fun _=>?_⟩
 ·rw [hps,List.mem_append] at hp
  exact Or.inr hp
 ·obtain ⟨_,_,_,_,_,hz,hn⟩:=hW
  refine ⟨hok,_,_,([]++pa)++pv,⟨[]++pa,pv,trodAll_append (hargs _ (fun _ _=>rfl)) (hres _ _ _),hvars _ (fun _ _=>rfl),rfl,?_,?_⟩,?_⟩
  ·intro b off hp
   have hp':MemPlace.cell b off∈before:=by rw [hps];simpa using hp
   rw [hst.frozen (a:=⟨b,off,none⟩) (hlt _ hp')]
   exact hz b off hp'
  ·intro ha
   have:=hn ha
   rw [hps] at this
   simpa using this
  ·intro p hp _
   rw [hps]
   simpa using hp
noncomputable def allIm (W:World):Nat→Option (Array Value):=fun b=>
 match W.heap[b]? with
 | some (.cells c _ _)=>some c
 | _=>none
noncomputable abbrev E0 (W:World) (t:Nat→Option Value):Env:=⟨fun _ _=>none,allIm W,t⟩
theorem allIm_some {W:World} {b:Nat} {c:Array Value} (h:allIm W b=some c):∃ t fr,W.heap[b]? = some (.cells c t fr):=by
 unfold allIm at h
 split at h
 ·rename_i c' t fr hb
  simp only [Option.some.injEq] at h;subst h
  exact ⟨t,fr,hb⟩
 ·cases h
theorem allIm_mk {W:World} {b:Nat} {c:Array Value} {t:TypeId} {fr:Nat×Nat} (h:W.heap[b]? = some (.cells c t fr)):allIm W b=some c:=by
 unfold allIm;rw [h]
theorem start_R {C:Ctx} {W:World} {t:Nat→Option Value} (hg:∀ g v,C.glob g=some v→GlR (E0 W t) g v):R C (E0 W t) Heap.empty W:=
 ⟨(fun _ _ _ h=>by cases h),(fun _ _ _ h=>by cases h),(fun _ _ _ _ _ _ h=>by cases h),(fun _ _ h=>allIm_some h),(fun _ _ _ h=>by cases h),hg,(fun id _=>by cases id <;> rfl)⟩
theorem glob_tab {P:Program} {W:World} {t:Nat→Option Value} {name:String} {k:IntKind} {zs:List Int} {g:Nat} (hn:P.globalNamed name=some g) (h:Go.Lib.TabIs P W name k zs) :
  VR (E0 W t) (.vptr (.agg (zs.map fun z=>.int k z)) 0) (.pointer (some ⟨g,0,none⟩)):=by
 unfold Go.Lib.TabIs World.var? at h
 rw [hn] at h
 simp only [Option.bind_some] at h
 split at h
 ·rename_i cs ty fr hb
  simp only [Option.some.injEq] at h;subst h
  have:=VR.vptr (E:=E0 W t) (v:=.agg (zs.map fun z=>.int k z)) (off:=0) (b:=g) (o:=0) (allIm_mk hb) (by simp [V.cells]) (fun i c x hc hx=>by
   simp only [V.cells,List.getElem?_map,Option.map_eq_some_iff] at hc
   obtain ⟨z,hz,rfl⟩:=hc
   simp [hz] at hx
   subst hx
   exact .int k z)
  simpa using this
 ·cases h
theorem law_calls {C:Ctx} {f:Nat} {args:List V} {H':Heap} (h:CallsTo C f args Heap.empty (.bool true) H') {xs:Array Value} {W:World} {t:Nat→Option Value}
  (hg:∀ g v,C.glob g=some v→GlR (E0 W t) g v)
  (hs:xs.size=args.length) (hrel:∀ (i:Nat) (a:V) (x:Value),args[i]? = some a→xs[i]? = some x→VR (E0 W t) a x) :
  Calls C.P f xs W fun e w'=>e=.returned (.bool true)∧Still W w':=by
 refine (h.2.2 (E0 W t) W xs (start_R hg) hs hrel).mono ?_
 rintro e w' ⟨x,E',rfl,_,hv,hG⟩
 cases hv
 exact ⟨rfl,hG.still fun _ _=>rfl⟩
end Am
namespace Am
open Go
variable {Hd:Type}
mutual
def cellsD:DataW Hd→List V
 | .lit (.bool b)=>[.bool b]
 | .lit (.int k n)=>[.int k n]
 | .lit (.string s)=>[.str s]
 | .nil=>[.nils]
 | .slice es _=>[.vec (elemsD es)]
 | .agg ps=>cellsDL ps
 | _=>[]
def elemsD:List (DataW Hd)→List V
 | []=>[]
 | d :: l=>.agg (cellsD d) :: elemsD l
def cellsDL:List (DataW Hd)→List V
 | []=>[]
 | d :: l=>cellsD d++cellsDL l
end
def consecS:List (Nat×Nat)→Nat→Nat→Bool
 | [],o,n=>o == n
 | (a,b) :: l,o,n=>a == o && consecS l (o+b) n
def plainT (P:Program) (ts:List TypeId) (t:TypeId):Bool:=
 match P.underlying t with
 | some .bool=>P.cellsOf t == 1
 | some (.int _)=>P.cellsOf t == 1
 | some .string=>P.cellsOf t == 1
 | some (.slice e)=>P.cellsOf t == 1 && ts.contains e && decide (0<P.cellsOf e)
 | some (.struct fs)=>fs.toList.all (fun f=>ts.contains f.type) && consecS (fs.toList.map fun f=>(f.offset,P.cellsOf f.type)) 0 (P.cellsOf t)
 | some (.array n e)=>ts.contains e && consecS ((List.range n).map fun i=>(i * P.cellsOf e,P.cellsOf e)) 0 (P.cellsOf t)
 | _=>false
def plainB (P:Program) (ts:List TypeId):Bool:=ts.all (plainT P ts)
theorem get_elemsD:∀ (ds:List (DataW Hd)) (i:Nat) (v:V),(elemsD ds)[i]? = some v→∃ d,ds[i]? = some d∧v=.agg (cellsD d)
 | [],i,v,h=>by simp [elemsD] at h
 | d :: l,0,v,h=>by
  simp only [elemsD,List.getElem?_cons_zero,Option.some.injEq] at h
  exact ⟨d,rfl,h.symm⟩
 | d :: l,i+1,v,h=>by
  simp only [elemsD,List.getElem?_cons_succ] at h
  obtain ⟨d',h1,h2⟩:=get_elemsD l i v h
  exact ⟨d',by simpa using h1,h2⟩
theorem length_elemsD:∀ (ds:List (DataW Hd)),(elemsD ds).length=ds.length
 | []=>rfl
 | d :: l=>by simp [elemsD,length_elemsD l]
theorem cat_cells {E:Env} {cs:List Value} : ∀ (sp:List (Nat×Nat)) (ds:List (DataW Hd)) (o:Nat),consecS sp o cs.length=true→ds.length=sp.length→
  (∀ (i:Nat) (s:Nat×Nat) (d:DataW Hd),sp[i]? = some s→ds[i]? = some d→(cellsD d).length=s.2∧∀ (j:Nat) (c:V) (v:Value),(cellsD d)[j]? = some c→((cs.drop s.1).take s.2)[j]? = some v→VR E c v)→
  (cellsDL ds).length+o=cs.length∧∀ (j:Nat) (c:V) (v:Value),(cellsDL ds)[j]? = some c→(cs.drop o)[j]? = some v→VR E c v
 | [],ds,o,h,hl,_=>by
  have:ds=[]:=List.eq_nil_of_length_eq_zero hl
  subst this
  simp only [consecS,beq_iff_eq] at h
  simp [cellsDL,h]
 | (a,b) :: sp,ds,o,h,hl,hk=>by
  cases ds with
  | nil=>cases hl
  | cons d ds=>
   simp only [consecS,Bool.and_eq_true,beq_iff_eq] at h
   obtain ⟨rfl,h⟩:=h
   obtain ⟨k1,k2⟩:=hk 0 (a,b) d rfl rfl
   simp only at k1 k2
   obtain ⟨k3,k4⟩:=cat_cells sp ds (a+b) h (by simpa using hl) (fun i s d' hs hd=>hk (i+1) s d' (by simpa using hs) (by simpa using hd))
   refine ⟨by simp only [cellsDL,List.length_append,k1];omega,fun j c v hc hv=>?_⟩
   simp only [cellsDL] at hc
   by_cases hj:j<b
   ·rw [List.getElem?_append_left (by omega)] at hc
    exact k2 j c v hc (by rw [List.getElem?_take,if_pos hj];exact hv)
   ·rw [List.getElem?_append_right (by omega),k1] at hc
    refine k4 (j - b) c v hc ?_
    rw [List.getElem?_drop] at hv ⊢
    rw [show a+b+(j - b)=a+j from by omega]
    exact hv
theorem trod_array_get {enc:TypeId×Value→Hd} {P:Program} {w:World} {base:Nat} {spare:Nat→Bool} {held:Bool} {fuel:Nat} {t e:TypeId} {m:Nat} {cs:List Value} {x:DataW Hd×List MemPlace}
  (ht:P.underlying t=some (.array m e)) (h:DataW.trod enc P w base spare held fuel t cs=some x) :
  ∃ (xs:List (DataW Hd×List MemPlace)) (n:Nat),fuel=n+1∧x=(.agg (xs.map (·.1)),xs.flatMap (·.2))∧cs.length=P.cellsOf t∧xs.length=m∧
   ∀ i,i<m→DataW.trod enc P w base spare held n e ((cs.drop (i * P.cellsOf e)).take (P.cellsOf e))=xs[i]?:=by
 cases fuel with
 | zero=>simp [DataW.trod] at h
 | succ n=>
  unfold DataW.trod at h
  rw [ht] at h
  split at h <;> simp_all
  obtain ⟨hl,xs,hp,hd⟩:=h
  exact ⟨xs,hd.symm,by simpa using mapM_some_length hp,fun i hi=>mapM_some_get hp i i (by simp [hi])⟩
theorem add_off (a:Addr) (n:Nat) (h:a.spot=none):a.add n=⟨a.block,a.off+n,none⟩:=by
 unfold Addr.add
 split
 ·rename_i h0
  subst h0
  cases a
  simp_all
 ·rfl
theorem cell_im {W:World} {b o:Nat} {x:Value} (h:W.cell? ⟨b,o,none⟩=some x):∃ c,allIm W b=some c∧c[o]? = some x:=by
 unfold World.cell? at h
 split at h
 ·rename_i c t fr hb
  simp only [Option.isSome_none] at h
  exact ⟨c,allIm_mk hb,by simpa using h⟩
 ·cases h
theorem open_ok {enc:TypeId×Value→Hd} {P:Program} {W:World} {tk:Nat→Option Value} {ts:List TypeId} {base:Nat} {spare:Nat→Bool} {held:Bool} (hp:plainB P ts=true) :
  ∀ (fuel:Nat) (t:TypeId) (cs:List Value) (x:DataW Hd×List MemPlace),t∈ts→DataW.trod enc P W base spare held fuel t cs=some x→
  (cellsD x.1).length=P.cellsOf t∧cs.length=P.cellsOf t∧∀ (i:Nat) (c:V) (v:Value),(cellsD x.1)[i]? = some c→cs[i]? = some v→VR (E0 W tk) c v
 | 0,t,cs,x,ht,h=>by simp [DataW.trod] at h
 | fuel+1,t,cs,x,ht,h=>by
  have hpt:=List.all_eq_true.1 hp t ht
  unfold plainT at hpt
  split at hpt
  ·rename_i hu
   obtain ⟨b,rfl,rfl⟩:=DataW.trod_bool hu h
   simp only [beq_iff_eq] at hpt
   refine ⟨by simp [cellsD,hpt],by simp [hpt],fun i c v hc hv=>?_⟩
   cases i with
   | zero=>simp [cellsD] at hc hv;subst hc;subst hv;exact .bool b
   | succ i=>simp [cellsD] at hc
  ·rename_i hu
   obtain ⟨n,rfl,rfl,_⟩:=DataW.trod_int hu h
   simp only [beq_iff_eq] at hpt
   refine ⟨by simp [cellsD,hpt],by simp [hpt],fun i c v hc hv=>?_⟩
   cases i with
   | zero=>simp [cellsD] at hc hv;subst hc;subst hv;exact .int _ n
   | succ i=>simp [cellsD] at hc
  ·rename_i hu
   obtain ⟨s,rfl,rfl,_⟩:=DataW.trod_string hu h
   simp only [beq_iff_eq] at hpt
   refine ⟨by simp [cellsD,hpt],by simp [hpt],fun i c v hc hv=>?_⟩
   cases i with
   | zero=>
    simp [cellsD] at hc hv;subst hc;subst hv
    have:=VR.str (E:=E0 W tk) s.data.toList
    simpa using this
   | succ i=>simp [cellsD] at hc
  ·rename_i e hu
   simp only [Bool.and_eq_true,beq_iff_eq,List.contains_iff_mem,decide_eq_true_eq] at hpt
   obtain ⟨⟨h1,he⟩,hce⟩:=hpt
   rcases DataW.trod_slice hu h with ⟨rfl,rfl⟩ | ⟨a,len,cap,elems,rest,n,hn,rfl,rfl,hb,hlc,_,hel,hget,_⟩
   ·refine ⟨by simp [cellsD,h1],by simp [h1],fun i c v hc hv=>?_⟩
    cases i with
    | zero=>simp [cellsD] at hc hv;subst hc;subst hv;exact .nils
    | succ i=>simp [cellsD] at hc
   ·cases hn
    refine ⟨by simp [cellsD,h1],by simp [h1],fun i c v hc hv=>?_⟩
    cases i with
    | succ i=>simp [cellsD] at hc
    | zero=>
     simp [cellsD] at hc hv;subst hc;subst hv
     have hlen:(elemsD (elems.map (·.1))).length=len:=by rw [length_elemsD];simpa using hel
     by_cases hz:len=0
     ·have:elems=[]:=List.eq_nil_of_length_eq_zero (by omega)
      subst this
      subst hz
      exact .vec0 a cap
     ·-- each element's cells
      have each:∀ i,i<len→∃ cs' y,W.cells? base (a.add (i * P.cellsOf e)) (P.cellsOf e)=some cs'∧elems[i]? = some y∧DataW.trod enc P W base spare held fuel e cs'=some y:=by
       intro i hi
       have:=hget i hi
       obtain ⟨y,hy⟩:∃ y,elems[i]? = some y:=⟨elems[i]'(by omega),by simp [hel,hi]⟩
       rw [hy] at this
       obtain ⟨cs',hc1,hc2⟩:=Option.bind_eq_some_iff.1 this
       exact ⟨cs',y,hc1,hy,hc2⟩
      have hspot:a.spot=none:=by
       obtain ⟨cs',y,hc1,_,_⟩:=each 0 (by omega)
       obtain ⟨_,hl,hc⟩:=World.cells?_some hc1
       have h0:=hc 0 hce
       obtain ⟨v0,hv0⟩:∃ v0,cs'[0]? = some v0:=⟨cs'[0]'(by omega),by simp [hl,hce]⟩
       rw [hv0] at h0
       simp only [Addr.add,Nat.zero_mul,if_true] at h0
       unfold World.cell? at h0
       split at h0
       ·split at h0
        ·cases h0
        ·rename_i hs
         cases hsp:a.spot with
         | none=>rfl
         | some s=>simp [hsp] at hs
       ·cases h0
      have cellAt:∀ i,i<len→∃ cs' y,elems[i]? = some y∧cs'.length=P.cellsOf e∧DataW.trod enc P W base spare held fuel e cs'=some y∧
        ∀ j,j<P.cellsOf e→W.cell? ⟨a.block,a.off+(i * P.cellsOf e+j),none⟩=cs'[j]?:=by
       intro i hi
       obtain ⟨cs',y,hc1,hc2,hc3⟩:=each i hi
       obtain ⟨_,hl,hc⟩:=World.cells?_some hc1
       refine ⟨cs',y,hc2,hl,hc3,fun j hj=>?_⟩
       rw [← hc j hj,add_off a _ hspot,add_off _ _ rfl,Nat.add_assoc]
      obtain ⟨blk,hblk⟩:∃ blk,allIm W a.block=some blk:=by
       obtain ⟨cs',y,_,hl,_,hc⟩:=cellAt 0 (by omega)
       have h0:=hc 0 hce
       obtain ⟨v0,hv0⟩:∃ v0,cs'[0]? = some v0:=⟨cs'[0]'(by omega),by simp [hl,hce]⟩
       rw [hv0] at h0
       obtain ⟨c,hc,_⟩:=cell_im h0
       exact ⟨c,hc⟩
      have inBlk:∀ i j (x:Value),W.cell? ⟨a.block,a.off+(i * P.cellsOf e+j),none⟩=some x→blk[a.off+(i * P.cellsOf e+j)]? = some x:=by
       intro i j x hx
       obtain ⟨c,hc,hx'⟩:=cell_im hx
       rw [hblk] at hc;cases hc
       exact hx'
      have key:=VR.vec (E:=E0 W tk) (es:=elemsD (elems.map (·.1))) (b:=a.block) (o:=a.off) (esz:=P.cellsOf e) (cap:=cap) (cells:=blk) hblk (by rw [hlen];exact hlc)
       (fun i v hv=>by
        obtain ⟨d,hd,rfl⟩:=get_elemsD _ _ _ hv
        have hi:i<len:=by
         rcases Nat.lt_or_ge i len with h | h
         ·exact h
         ·rw [List.getElem?_eq_none (by simp;omega)] at hd;cases hd
        obtain ⟨cs',y,hy,hl,ht',hc⟩:=cellAt i hi
        rw [List.getElem?_map,hy] at hd
        simp only [Option.map_some,Option.some.injEq] at hd
        subst hd
        have ih:=open_ok (tk:=tk) hp fuel e cs' y he ht'
        refine ⟨by simpa [V.cells] using ih.1,?_⟩
        obtain ⟨v0,hv0⟩:∃ v0,cs'[P.cellsOf e - 1]? = some v0:=⟨cs'[P.cellsOf e - 1]'(by omega),by simp⟩
        have h0:=hc (P.cellsOf e - 1) (by omega)
        rw [hv0] at h0
        have:=inBlk _ _ _ h0
        have:=(Array.getElem?_eq_some_iff.1 this).1
        omega)
       (fun i j v c x hv hc hx=>by
        obtain ⟨d,hd,rfl⟩:=get_elemsD _ _ _ hv
        have hi:i<len:=by
         rcases Nat.lt_or_ge i len with h | h
         ·exact h
         ·rw [List.getElem?_eq_none (by simp;omega)] at hd;cases hd
        obtain ⟨cs',y,hy,hl,ht',hcell⟩:=cellAt i hi
        rw [List.getElem?_map,hy] at hd
        simp only [Option.map_some,Option.some.injEq] at hd
        subst hd
        have ih:=open_ok (tk:=tk) hp fuel e cs' y he ht'
        simp only [V.cells] at hc
        have hj:j<P.cellsOf e:=by
         rcases Nat.lt_or_ge j (P.cellsOf e) with h | h
         ·exact h
         ·rw [List.getElem?_eq_none (by rw [ih.1];exact h)] at hc;cases hc
        obtain ⟨u,hu'⟩:∃ u,cs'[j]? = some u:=⟨cs'[j]'(by omega),by simp [hl,hj]⟩
        have h0:=hcell j hj
        rw [hu'] at h0
        have h1:=inBlk _ _ _ h0
        rw [← Nat.add_assoc] at h1
        rw [h1] at hx;cases hx
        exact ih.2.2 j c _ hc hu')
      rw [hlen] at key
      have ea:a=⟨a.block,a.off,none⟩:=by cases a;simp_all
      rw [ea]
      exact key
  ·rename_i fs hu
   simp only [Bool.and_eq_true,List.all_eq_true,List.contains_iff_mem] at hpt
   obtain ⟨hts,hcon⟩:=hpt
   obtain ⟨xs,n,hn,rfl,hl,hxl,hget⟩:=DataW.trod_struct hu h
   cases hn
   have key:=cat_cells (E:=E0 W tk) (cs:=cs) (fs.toList.map fun f=>(f.offset,P.cellsOf f.type)) (xs.map (·.1)) 0 (by rw [hl];exact hcon) (by simp [hxl]) (fun i s d hs hd=>by
    simp only [List.getElem?_map,Option.map_eq_some_iff] at hs hd
    obtain ⟨f,hf,rfl⟩:=hs
    obtain ⟨y,hy,rfl⟩:=hd
    have hf':fs[i]? = some f:=by simpa using hf
    have ht':=hget i f hf'
    rw [hy] at ht'
    have ih:=open_ok (tk:=tk) hp fuel f.type _ y (hts f (List.mem_of_getElem? hf)) ht'
    exact ⟨ih.1,ih.2.2⟩)
   refine ⟨by have:=key.1;simp only [Nat.add_zero] at this;simp only [cellsD];omega,hl,fun i c v hc hv=>key.2 i c v (by simpa [cellsD] using hc) (by simpa using hv)⟩
  ·rename_i m e hu
   simp only [Bool.and_eq_true,List.contains_iff_mem] at hpt
   obtain ⟨he,hcon⟩:=hpt
   obtain ⟨xs,n,hn,rfl,hl,hxl,hget⟩:=trod_array_get hu h
   cases hn
   have key:=cat_cells (E:=E0 W tk) (cs:=cs) ((List.range m).map fun i=>(i * P.cellsOf e,P.cellsOf e)) (xs.map (·.1)) 0 (by rw [hl];exact hcon) (by simp [hxl]) (fun i s d hs hd=>by
    simp only [List.getElem?_map,Option.map_eq_some_iff] at hs hd
    obtain ⟨k,hk,rfl⟩:=hs
    obtain ⟨y,hy,rfl⟩:=hd
    obtain ⟨hi,rfl⟩:i<m∧i=k:=by
     obtain ⟨hi,hk'⟩:=List.getElem?_eq_some_iff.1 hk
     simp at hi hk'
     exact ⟨hi,hk'⟩
    have ht':=hget i hi
    rw [hy] at ht'
    have ih:=open_ok (tk:=tk) hp fuel e _ y he ht'
    exact ⟨ih.1,ih.2.2⟩)
   refine ⟨by have:=key.1;simp only [Nat.add_zero] at this;simp only [cellsD];omega,hl,fun i c v hc hv=>key.2 i c v (by simpa [cellsD] using hc) (by simpa using hv)⟩
  ·cases hpt
end Am
namespace Am
open Go
variable {Hd:Type} {enc:TypeId×Value→Hd} {P:Program} {W W':World}
theorem Still.sameAt (h:Still W W') {p:MemPlace} (hp:p.block<W.heap.size):W.sameAt W' p:=by
 cases p with
 | cell b off=>
  have hp:b<W.heap.size:=hp
  show W'.cell? ⟨b,off,none⟩=W.cell? ⟨b,off,none⟩
  unfold World.cell?
  rw [h.heap b hp]
 | map b=>exact h.heap b hp
theorem trodAll_still (h:Still W W') {base:Nat} {sp:Nat→Bool} {held:Bool} : ∀ {ts:List TypeId} {vs:List Value} {ds:List (DataW Hd)} {ps:List MemPlace},
  DataW.TrodAll enc P W base sp held ts vs ds ps→DataW.TrodAll enc P W' base sp held ts vs ds ps
 | [],[],[],_,k=>k
 | _ :: _,_ :: _,_ :: _,_,⟨a,b,⟨n,h1⟩,h2,e⟩=>⟨a,b,⟨n,DataW.trod_carry n _ _ _ h1 fun p hp=>h.sameAt (DataW.trod_lt n _ _ _ h1 p hp)⟩,trodAll_still h h2,e⟩
theorem again (hl:laidOutB P=true) (hm:mapsRowed P=true)
  (hz:((List.range P.types.size).all fun t=>match P.underlying t with | some (.slice e)=>decide (0<P.cellsOf e) | _=>true)=true)
  {ts:List TypeId} (hT:∀ t∈ts,t<P.types.size) {vs:List Value} {ds:List (DataW Hd)} {ps:List MemPlace}
  (h:DataW.TrodAll enc P W 0 (fun _=>true) true ts vs ds ps) (hst:Still W W') {sp:Nat→Bool} (hs:∀ p∈ps,sp p.block=true) :
  DataW.TrodAll enc P W' 0 sp true ts vs ds ps:=
 DataW.TrodAll.respare (kids_rows hl hm) (slices_full_of P hz) hT (trodAll_still hst h) hs
end Am
namespace Am
open Go Go.RowKit
variable {C:Ctx} {E:Env} {H:Heap} {w:World}
theorem R.below (hR:R C E H w) {w':World} (hb:Below w.heap.size w w'):R C E H w'∧Good H.n E w E w':=by
 refine ⟨⟨hR.dom,fun id ver r h=>?_,hR.sep,fun b c h=>?_,hR.disj,hR.gl,hR.wf⟩,⟨.refl E,fun b h ho=>⟨hb.block b h,ho⟩,fun _ _ h=>h,hb.size,hb.os,hb.tape,hb.output,fun _ _ h=>h⟩⟩
 ·obtain ⟨o,h1,h2⟩:=hR.obj id ver r h
  exact ⟨o,h1,h2.mono (.refl E) (hb.block _ h2.block)⟩
 ·obtain ⟨t,fr,h1⟩:=hR.imm b c h
  exact ⟨t,fr,by rw [hb.block _ (hR.imm_lt h)];exact h1⟩
theorem cell_at {b o:Nat} {c:Array Value} {t:TypeId} {fr:Nat×Nat} (h:w.heap[b]? = some (.cells c t fr)):w.cell? ⟨b,o,none⟩=c[o]?:=by
 unfold World.cell?
 rw [h]
 rfl
theorem slice_at (hR:R C E H w) {n:Nat} {X:V} {x:Value} {c:List V} (hs:srcCells H 1 X=some (n,c)) (hX:∀ s,X≠.str s) (hx:VR E X x) :
  c.length=n∧((n=0∧∃ a k,x=.slice a 0 k)∨∃ b o k,x=.slice (some ⟨b,o,none⟩) n k∧n≤k∧b<w.heap.size∧∀ (j:Nat) (v:V),c[j]? = some v→∃ y,w.cell? ⟨b,o+j,none⟩=some y∧VR E v y):=by
 refine ⟨by have:=(src_ok hR hs hx).1;omega,?_⟩
 unfold srcCells at hs
 split at hs
 ·simp only [Option.some.injEq,Prod.mk.injEq] at hs
  obtain ⟨rfl,rfl⟩:=hs
  obtain rfl:=hx.nils_inv
  exact .inl ⟨rfl,_,_,rfl⟩
 ·rename_i es
  split at hs
  ·rename_i c' hf
   simp only [Option.some.injEq,Prod.mk.injEq] at hs
   obtain ⟨rfl,rfl⟩:=hs
   cases hx with
   | vec0 a cap=>exact .inl ⟨rfl,_,_,rfl⟩
   | @vec _ b o' esz' cap cells h1 h2 h3 h4=>
    by_cases hne:es=[]
    ·subst hne;exact .inl ⟨rfl,_,_,rfl⟩
    ·have hsz:esz'=1:=by
      cases es with
      | nil=>exact absurd rfl hne
      | cons u es=>
       simp only [flatAll] at hf
       split at hf
       ·rename_i hc
        simp only [Bool.and_eq_true,nbeq] at hc
        have:=(h3 0 u rfl).1
        omega
       ·cases hf
     subst hsz
     obtain ⟨t,fr,hb⟩:=hR.imm b cells h1
     have hrow:∀ (i:Nat) (v:V),es[i]? = some v→Row E w b (o'+i * 1) v.cells:=by
      intro i v hv j u hu
      obtain ⟨g1,g2⟩:=h3 i v hv
      have hj:j<v.cells.length:=by
       rcases Nat.lt_or_ge j v.cells.length with h' | h'
       ·exact h'
       ·simp [List.getElem?_eq_none h'] at hu
      have hlt:o'+i * 1+j<cells.size:=by omega
      exact ⟨cells[o'+i * 1+j],by rw [cell_of hb];simp,h4 i j v u _ hv hu (by simp)⟩
     obtain ⟨g1,g2,g3⟩:=flat_row hf hrow
     exact .inr ⟨b,o',cap,rfl,h2,hR.imm_lt h1,fun j v hv=>g3 j v hv⟩
  ·cases hs
 ·exact absurd rfl (hX _)
 ·rename_i id off len ver e full
  split at hs
  ·rename_i cs cur low hg
   split at hs
   ·rename_i hgd
    simp only [Bool.and_eq_true,nbeq] at hgd
    obtain ⟨hgd,rfl⟩:=hgd
    simp only [Option.some.injEq,Prod.mk.injEq] at hs
    obtain ⟨rfl,rfl⟩:=hs
    cases hx with
    | @sl _ _ _ _ _ _ r a cap g1 g2 g3 g4 g5 g6=>
     obtain ⟨ob,o1,o2⟩:=hR.obj _ _ _ g1
     rw [hg] at o1;cases o1
     have hlt:=o2.block
     obtain ⟨rc,t,fr,h0,h1,h2,h3,h4,h5,h6,h7,h8,h9⟩:=o2
     obtain ⟨gl,gv⟩:=good_some hgd
     by_cases hz:len=0
     ·subst hz;exact .inl ⟨rfl,_,_,rfl⟩
     ·obtain ⟨rfl,_⟩:=g6 (by omega)
      refine .inr ⟨r.b,off - r.lo,cap,rfl,g4,hlt,fun j v hv=>?_⟩
      rw [List.getElem?_take] at hv
      split at hv
      ·rename_i hj
       rw [List.getElem?_drop] at hv
       obtain ⟨y,hy,hvy⟩:=h8 (off+j) v hv (by omega) (by omega) (gv.elim .inl fun g=>.inr (by omega))
       exact ⟨y,by rw [cell_at h0,show off - r.lo+j=off+j - r.lo from by omega];exact hy,hvy⟩
      ·cases hv
   ·cases hs
  ·cases hs
 ·cases hs
def strsV:List V→Option (List (List UInt8))
 | []=>some []
 | v :: l=>match v with
  | .str s=>match strsV l with
   | some r=>some (s :: r)
   | none=>none
  | _=>none
theorem strsV_get:∀ {c:List V} {xs:List (List UInt8)},strsV c=some xs→xs.length=c.length∧∀ (j:Nat) (s:List UInt8),xs[j]? = some s→c[j]? = some (.str s)
 | [],xs,h=>by simp only [strsV,Option.some.injEq] at h;subst h;simp
 | v :: l,xs,h=>by
  simp only [strsV] at h
  split at h
  ·split at h
   ·rename_i r hr
    simp only [Option.some.injEq] at h;subst h
    obtain ⟨k1,k2⟩:=strsV_get hr
    refine ⟨by simp [k1],fun j s hs=>?_⟩
    cases j with
    | zero=>simp at hs;subst hs;rfl
    | succ j=>simpa using k2 j s (by simpa using hs)
   ·cases h
  ·cases h
def oJoin (f0:Nat):CallF:=fun f args h=>
 match Nat.beq f f0 with
 | false=>none
 | true=>match args with
  | [.str _,_]=>none
  | [s,.str sep]=>match srcCells h 1 s with
   | some (n,c)=>match strsV c with
    | some xs=>match Nat.ble n 1048576 && Nat.ble (Go.Lib.join xs sep).length 1048576 with
     | true=>some (.str (Go.Lib.join xs sep),h)
     | false=>none
    | none=>none
   | none=>none
  | _=>none
theorem oJoin_ok {f0:Nat} (he:enters C.P f0=true)
  (h0:∀ (a:Option Addr) (c:Nat) (sep:ByteArray) (w:World),Calls C.P f0 #[.slice a 0 c,.string sep] w fun e w'=>e=.returned (.string ⟨#[]⟩)∧w'=w)
  (h1:∀ (bk o c:Nat) (xs:List ByteArray) (sep:ByteArray) (w:World),(∀ (j:Nat) x,xs[j]? = some x→w.cell? ⟨bk,o+j,none⟩=some (.string x))→bk<w.heap.size→xs.length≤140737488355328→xs.length≤c→
   (Go.Lib.join (xs.map (·.data.toList)) sep.data.toList).length≤140737488355328→
   Calls C.P f0 #[.slice (some ⟨bk,o,none⟩) xs.length c,.string sep] w fun e w'=>e=.returned (.string ⟨(Go.Lib.join (xs.map (·.data.toList)) sep.data.toList).toArray⟩)∧Below w.heap.size w w') :
  CallOk C (oJoin f0):=by
 intro f args H v H' h
 unfold oJoin at h
 split at h
 ·cases h
 rename_i hf
 rw [nbeq] at hf;subst hf
 split at h
 ·cases h
 ·rename_i s sep hns
  split at h
  case h_2=>cases h
  rename_i n c hs
  split at h
  case h_2=>cases h
  rename_i xs hxs
  split at h
  case h_2=>cases h
  rename_i hb
  simp only [Bool.and_eq_true] at hb
  obtain ⟨hb1,hb2⟩:=hb
  have hb1:=Nat.le_of_ble_eq_true hb1
  have hb2:=Nat.le_of_ble_eq_true hb2
  simp only [Option.some.injEq,Prod.mk.injEq] at h
  obtain ⟨rfl,rfl⟩:=h
  refine ⟨he,Nat.le_refl _,fun E w ys hR hsz hrel=>?_⟩
  obtain ⟨x,y,rfl⟩:∃ x y,ys = #[x,y]:=by
   rcases ys with ⟨l⟩
   match l,hsz with
   | [x,y],_=>exact ⟨x,y,rfl⟩
  have hx:=hrel 0 s x rfl rfl
  have hy:=hrel 1 (.str sep) y rfl rfl
  obtain rfl:=hy.str_inv
  obtain ⟨hlen,hcase⟩:=slice_at hR hs (fun s' e=>hns s' e) hx
  obtain ⟨k1,k2⟩:=strsV_get hxs
  rcases hcase with ⟨hn,a,k,rfl⟩ | ⟨b,o,k,rfl,hk,hbs,hcells⟩
  ·have:xs=[]:=List.eq_nil_of_length_eq_zero (by omega)
   subst this
   refine (h0 a k _ w).mono ?_
   rintro e w' ⟨rfl,rfl⟩
   exact ⟨_,E,rfl,hR,by rw [Go.Lib.join_nil];exact .str [],.refl _ _ _⟩
  ·have hl:(xs.map fun s=>(⟨s.toArray⟩:ByteArray)).length=n:=by simp;omega
   have hmap:(xs.map fun s=>(⟨s.toArray⟩:ByteArray)).map (·.data.toList)=xs:=by simp [Function.comp_def]
   have hcall:=h1 b o k (xs.map fun s=>(⟨s.toArray⟩:ByteArray)) ⟨sep.toArray⟩ w (fun j z hz=>by
    simp only [List.getElem?_map,Option.map_eq_some_iff] at hz
    obtain ⟨s',hs',rfl⟩:=hz
    obtain ⟨y,hy1,hy2⟩:=hcells j _ (k2 j s' hs')
    obtain rfl:=hy2.str_inv
    exact hy1) hbs (by omega) (by omega) (by rw [hmap];exact Nat.le_trans hb2 (by decide))
   rw [hl,hmap] at hcall
   refine hcall.mono ?_
   rintro e w' ⟨rfl,hbel⟩
   obtain ⟨r1,r2⟩:=hR.below hbel
   exact ⟨_,E,rfl,r1,.str _,r2⟩
 ·cases h
end Am
namespace Am
open Go (IntKind)
def i64 (a:Int):Prop:=-9223372036854775808≤a∧a≤9223372036854775807
end Am
namespace Am
open Go
section
variable {call:CallF} {fuel:Nat} {ls vs:List V} {h:Heap}
@[simp] theorem nth_zero {α:Type} (a:α) (l:List α):nth (a :: l) 0=some a:=rfl
@[simp] theorem nth_succ {α:Type} (a:α) (l:List α) (n:Nat):nth (a :: l) (n+1)=nth l n:=rfl
@[simp] theorem ev_loc (i:Nat):ev ls vs (.loc i)=nth ls i:=rfl
@[simp] theorem ev_var (i:Nat):ev ls vs (.var i)=nth vs i:=rfl
@[simp] theorem ev_cst (v:V):ev ls vs (.cst v)=some v:=rfl
end
end Am
namespace Am
open Go
def CallLe (c c':CallF):Prop:=∀ f a h r,c f a h=some r→c' f a h=some r
section mono
variable {call call':CallF}
theorem opc_mono (hc:CallLe call call') {k:AK} {ls vs:List V} {h:Heap} {r:V×Heap} (e:opc call k ls vs h=some r):opc call' k ls vs h=some r:=by
 cases k with
 | call f args=>
  simp only [opc,o_call] at e ⊢
  cases ha:evs ls vs args with
  | none=>rw [ha] at e;cases e
  | some as=>rw [ha] at e;exact hc _ _ _ _ e
 | callv f args=>
  simp only [opc,o_callv] at e ⊢
  split at e
  ·exact hc _ _ _ _ e
  ·cases e
 | _=>exact e
theorem opv_opc {k:AK} {ls vs:List V} {h:Heap} {r:V×Heap} (e:opv k ls vs h=some r):opc call k ls vs h=some r:=by
 cases k <;> first
  | exact e
  | cases e
theorem stepO_mono (hc:CallLe call call') {o:AOp} {ls vs:List V} {h:Heap} {r:V×Heap} (e:stepO call o ls vs h=some r):stepO call' o ls vs h=some r:=by
 simp only [stepO] at e ⊢
 cases hw:wantedV ls o.g with
 | none=>rw [hw] at e;cases e
 | some b=>
  rw [hw] at e
  cases b with
  | false=>exact e
  | true=>exact opc_mono hc e
theorem runOps_mono (hc:CallLe call call'):∀ {os:List AOp} {ls vs:List V} {h:Heap} {r:List V×Heap},runOps call os ls vs h=some r→runOps call' os ls vs h=some r
 | [],_,_,_,_,e=>e
 | o :: os,ls,vs,h,r,e=>by
  simp only [runOps] at e ⊢
  cases hs:stepO call o ls vs h with
  | none=>rw [hs] at e;cases e
  | some x=>
   rw [hs] at e
   rw [stepO_mono hc hs]
   exact runOps_mono hc e
theorem iter_mono {f g:List V→Heap→Out} (hf:∀ vs h r,f vs h=some r→g vs h=some r):∀ {n m:Nat} {vs:List V} {h:Heap} {r:Ex×List V×Heap},n≤m→iter f n vs h=some r→iter g m vs h=some r
 | 0,_,_,_,_,_,e=>by cases e
 | n+1,0,_,_,_,hn,_=>absurd hn (by omega)
 | n+1,m+1,vs,h,r,hn,e=>by
  simp only [iter] at e ⊢
  cases hs:f vs h with
  | none=>rw [hs] at e;cases e
  | some x=>
   obtain ⟨ex,vs1,h1⟩:=x
   rw [hs] at e
   rw [hf _ _ _ hs]
   cases ex with
   | normal=>exact iter_mono hf (by omega) e
   | exit i=>exact e
   | ret=>exact e
theorem exec_mono (hc:CallLe call call') {fuel fuel':Nat} (hn:fuel≤fuel'):∀ (c:AC) (vs:List V) (h:Heap) (r:Ex×List V×Heap),exec call fuel c vs h=some r→exec call' fuel' c vs h=some r
 | .skip,_,_,_,e=>e
 | .reg ops outs,vs,h,r,e=>by
  simp only [exec,x_reg] at e ⊢
  cases hs:runOps call ops [] vs h with
  | none=>rw [hs] at e;cases e
  | some x=>rw [hs] at e;rw [runOps_mono hc hs];exact e
 | .reg2 ops s1 s2 outs,vs,h,r,e=>by
  simp only [exec,x_reg2] at e ⊢
  cases hs:runOps call ops [] vs h with
  | none=>rw [hs] at e;cases e
  | some x=>rw [hs] at e;rw [runOps_mono hc hs];exact e
 | .seq a b,vs,h,r,e=>by
  simp only [exec,x_seq] at e ⊢
  cases hs:exec call fuel a vs h with
  | none=>rw [hs] at e;cases e
  | some x=>
   obtain ⟨ex,vs1,h1⟩:=x
   rw [hs] at e
   rw [exec_mono hc hn a vs h _ hs]
   cases ex with
   | normal=>exact exec_mono hc hn b vs1 h1 r e
   | exit i=>exact e
   | ret=>exact e
 | .cond c a b,vs,h,r,e=>by
  simp only [exec,x_cond] at e ⊢
  split at e
  ·exact exec_mono hc hn a vs h r e
  ·exact exec_mono hc hn b vs h r e
  ·cases e
 | .coin s a,vs,h,r,e=>e
 | .block id b,vs,h,r,e=>by
  simp only [exec,x_block] at e ⊢
  cases hs:exec call fuel b vs h with
  | none=>rw [hs] at e;cases e
  | some x=>rw [hs] at e;rw [exec_mono hc hn b vs h _ hs];exact e
 | .loop b,vs,h,r,e=>by
  simp only [exec] at e ⊢
  exact iter_mono (fun vs h r=>exec_mono hc hn b vs h r) hn e
 | .exit id,_,_,_,e=>e
 | .ret,_,_,_,e=>e
 | .stuck,_,_,_,e=>e
theorem body_mono (hc:CallLe call call') {fuel fuel':Nat} (hn:fuel≤fuel') {a:AFunc} {args:List V} {h:Heap} {r:V×Heap} (e:body call fuel a args h=some r):body call' fuel' a args h=some r:=by
 simp only [body] at e ⊢
 cases hl:Nat.beq args.length a.nparams with
 | false=>rw [hl] at e;cases e
 | true=>
  rw [hl] at e
  simp only at e ⊢
  cases hs:exec call fuel a.code (initV a.slots args) h with
  | none=>rw [hs] at e;cases e
  | some x=>rw [hs] at e;rw [exec_mono hc hn _ _ _ _ hs];exact e
end mono
theorem run_mono {T:Nat→Option AFunc} {O:CallF} : ∀ {n m:Nat},n≤m→CallLe (run T O n) (run T O m)
 | 0,_,_=>fun _ _ _ _ e=>by cases e
 | n+1,0,hn=>absurd hn (by omega)
 | n+1,m+1,hn=>fun f a h r e=>by
  simp only [run] at e ⊢
  cases ho:O f a h with
  | some x=>rw [ho] at e;exact e
  | none=>
   rw [ho] at e
   simp only at e ⊢
   cases ht:T f with
   | none=>rw [ht] at e;cases e
   | some af=>
    rw [ht] at e
    exact body_mono (run_mono (by omega)) (by omega) e
abbrev Pred2:=List V→Heap→Prop
def lkE:List (Nat×Pred2)→Nat→Option Pred2
 | [],_=>none
 | (j,P) :: l,i=>match Nat.beq i j with
  | true=>some P
  | false=>lkE l i
def Post (N:Pred2) (E:List (Nat×Pred2)) (R:Pred2):Ex→List V→Heap→Prop
 | .normal,vs,h=>N vs h
 | .exit i,vs,h=>∃ P,lkE E i=some P∧P vs h
 | .ret,vs,h=>R vs h
section wp
variable (T:Nat→Option AFunc) (O:CallF)
structure WPx (c:AC) (vs:List V) (h:Heap) (N:Pred2) (E:List (Nat×Pred2)) (R:Pred2):Prop where
 out:∃ n ex vs' h',exec (run T O n) n c vs h=some (ex,vs',h')∧Post N E R ex vs' h'
structure WPo (os:List AOp) (ls vs:List V) (h:Heap) (Q:List V→Heap→Prop):Prop where
 out:∃ n ls' h',runOps (run T O n) os ls vs h=some (ls',h')∧Q ls' h'
structure WPc (f:Nat) (args:List V) (h:Heap) (Q:V→Heap→Prop):Prop where
 out:∃ n v h',run T O n f args h=some (v,h')∧Q v h'
end wp
section rules
variable {T:Nat→Option AFunc} {O:CallF} {vs ls:List V} {h:Heap} {N N' R R':Pred2} {E:List (Nat×Pred2)} {Q Q':List V→Heap→Prop}
theorem WPx.mono {c:AC} (k:WPx T O c vs h N E R) (hN:∀ vs h,N vs h→N' vs h) (hR:∀ vs h,R vs h→R' vs h):WPx T O c vs h N' E R':=by
 obtain ⟨n,ex,vs1,h1,e,p⟩:=k
 refine ⟨n,ex,vs1,h1,e,?_⟩
 cases ex with
 | normal=>exact hN _ _ p
 | exit i=>exact p
 | ret=>exact hR _ _ p
theorem WPc.mono {f:Nat} {args:List V} {Q Q':V→Heap→Prop} (k:WPc T O f args h Q) (hQ:∀ v h,Q v h→Q' v h):WPc T O f args h Q':=by
 obtain ⟨n,v,h1,e,p⟩:=k
 exact ⟨n,v,h1,e,hQ _ _ p⟩
theorem w_skip (k:N vs h):WPx T O .skip vs h N E R:=⟨0,.normal,vs,h,rfl,k⟩
theorem w_exit {i:Nat} {P:Pred2} (hl:lkE E i=some P) (k:P vs h):WPx T O (.exit i) vs h N E R:=⟨0,.exit i,vs,h,rfl,P,hl,k⟩
theorem w_ret (k:R vs h):WPx T O .ret vs h N E R:=⟨0,.ret,vs,h,rfl,k⟩
theorem w_seq {a b:AC} (k:WPx T O a vs h (fun vs h=>WPx T O b vs h N E R) E R):WPx T O (.seq a b) vs h N E R:=by
 obtain ⟨n,ex,vs1,h1,e,p⟩:=k
 cases ex with
 | normal=>
  obtain ⟨m,ex2,vs2,h2,e2,p2⟩:=p
  refine ⟨max n m,ex2,vs2,h2,?_,p2⟩
  have k1:=exec_mono (run_mono (T:=T) (O:=O) (Nat.le_max_left n m)) (Nat.le_max_left n m) _ _ _ _ e
  have k2:=exec_mono (run_mono (T:=T) (O:=O) (Nat.le_max_right n m)) (Nat.le_max_right n m) _ _ _ _ e2
  simp only [exec,x_seq,k1,k2]
 | exit i=>exact ⟨n,.exit i,vs1,h1,by simp only [exec,x_seq,e],p⟩
 | ret=>exact ⟨n,.ret,vs1,h1,by simp only [exec,x_seq,e],p⟩
theorem w_cond_t {c:Opd} {a b:AC} (hc:ev [] vs c=some (.bool true)) (k:WPx T O a vs h N E R):WPx T O (.cond c a b) vs h N E R:=by
 obtain ⟨n,ex,vs1,h1,e,p⟩:=k
 exact ⟨n,ex,vs1,h1,by simp only [exec,x_cond,hc];exact e,p⟩
theorem w_cond_f {c:Opd} {a b:AC} (hc:ev [] vs c=some (.bool false)) (k:WPx T O b vs h N E R):WPx T O (.cond c a b) vs h N E R:=by
 obtain ⟨n,ex,vs1,h1,e,p⟩:=k
 exact ⟨n,ex,vs1,h1,by simp only [exec,x_cond,hc];exact e,p⟩
theorem w_block {id:Nat} {b:AC} (k:WPx T O b vs h N ((id,N) :: E) R):WPx T O (.block id b) vs h N E R:=by
 obtain ⟨n,ex,vs1,h1,e,p⟩:=k
 cases ex with
 | normal=>exact ⟨n,.normal,vs1,h1,by simp only [exec,x_block,e],p⟩
 | ret=>exact ⟨n,.ret,vs1,h1,by simp only [exec,x_block,e],p⟩
 | exit i=>
  obtain ⟨P,hl,hp⟩:=p
  simp only [lkE] at hl
  cases hb:Nat.beq i id with
  | true=>
   rw [hb] at hl
   simp only [Option.some.injEq] at hl
   subst hl
   exact ⟨n,.normal,vs1,h1,by simp only [exec,x_block,e,hb],hp⟩
  | false=>
   rw [hb] at hl
   exact ⟨n,.exit i,vs1,h1,by simp only [exec,x_block,e,hb],P,hl,hp⟩
theorem w_block_cut {id:Nat} {b:AC} (P:Pred2) (k:WPx T O b vs h P ((id,P) :: E) R) (k2:∀ vs h,P vs h→N vs h):WPx T O (.block id b) vs h N E R:=
 (w_block (N:=P) k).mono k2 fun _ _ x=>x
theorem w_loop_step {b:AC} (k:WPx T O b vs h (fun vs h=>WPx T O (.loop b) vs h N E R) E R):WPx T O (.loop b) vs h N E R:=by
 obtain ⟨n,ex,vs1,h1,e,p⟩:=k
 cases ex with
 | normal=>
  obtain ⟨m,ex2,vs2,h2,e2,p2⟩:=p
  refine ⟨max n m+1,ex2,vs2,h2,?_,p2⟩
  have k1:=exec_mono (run_mono (T:=T) (O:=O) (show n≤max n m+1 by omega)) (show n≤max n m+1 by omega) _ _ _ _ e
  simp only [exec] at e2 ⊢
  simp only [iter,k1]
  exact iter_mono (fun vs h r=>exec_mono (run_mono (T:=T) (O:=O) (show m≤max n m+1 by omega)) (show m≤max n m+1 by omega) b vs h r) (by omega) e2
 | exit i=>
  refine ⟨n+1,.exit i,vs1,h1,?_,p⟩
  have k1:=exec_mono (run_mono (T:=T) (O:=O) (show n≤n+1 by omega)) (show n≤n+1 by omega) _ _ _ _ e
  simp only [exec,iter,k1]
 | ret=>
  refine ⟨n+1,.ret,vs1,h1,?_,p⟩
  have k1:=exec_mono (run_mono (T:=T) (O:=O) (show n≤n+1 by omega)) (show n≤n+1 by omega) _ _ _ _ e
  simp only [exec,iter,k1]
theorem w_loop {b:AC} (I:Nat→Pred2) (hb:∀ m vs h,I m vs h→WPx T O b vs h (fun vs h=>∃ m',m'<m∧I m' vs h) E R):∀ (m:Nat) (vs:List V) (h:Heap),I m vs h→WPx T O (.loop b) vs h N E R:=by
 intro m
 induction m using Nat.strongRecOn with
 | _ m ih=>
  intro vs h hI
  exact w_loop_step ((hb m vs h hI).mono (fun vs h ⟨m',hm,hI'⟩=>ih m' hm vs h hI') fun _ _ x=>x)
theorem w_reg {ops:List AOp} {outs:List (Nat×Nat)} (k:WPo T O ops [] vs h (fun ls h'=>∃ vs',outsV ls outs vs=some vs'∧N vs' h')):WPx T O (.reg ops outs) vs h N E R:=by
 obtain ⟨n,ls1,h1,e,vs1,e2,p⟩:=k
 exact ⟨n,.normal,vs1,h1,by simp only [exec,x_reg,e,e2],p⟩
theorem w_nil (k:Q ls h):WPo T O [] ls vs h Q:=⟨0,ls,h,rfl,k⟩
theorem w_op {k:AK} {os:List AOp} {v:V} {h1:Heap} (e:opv k ls vs h=some (v,h1)) (k1:WPo T O os (v :: ls) vs h1 Q):WPo T O (⟨none,k⟩ :: os) ls vs h Q:=by
 obtain ⟨n,ls2,h2,e2,p⟩:=k1
 exact ⟨n,ls2,h2,by simp only [runOps,stepO,wantedV,opv_opc (call:=run T O n) e];exact e2,p⟩
theorem w_on {g:Nat×Bool} {k:AK} {os:List AOp} (hg:wantedV ls (some g)=some true) (k1:WPo T O (⟨none,k⟩ :: os) ls vs h Q):WPo T O (⟨some g,k⟩ :: os) ls vs h Q:=by
 obtain ⟨n,ls2,h2,e2,p⟩:=k1
 exact ⟨n,ls2,h2,by simp only [runOps,stepO,hg];simpa only [runOps,stepO,wantedV] using e2,p⟩
theorem w_off {g:Nat×Bool} {k:AK} {os:List AOp} (hg:wantedV ls (some g)=some false) (k1:WPo T O os (.tuple [] :: ls) vs h Q):WPo T O (⟨some g,k⟩ :: os) ls vs h Q:=by
 obtain ⟨n,ls2,h2,e2,p⟩:=k1
 exact ⟨n,ls2,h2,by simp only [runOps,stepO,hg];exact e2,p⟩
theorem w_call {f:Nat} {args:List Opd} {os:List AOp} {as:List V} (e:evs ls vs args=some as) (k1:WPc T O f as h (fun v h1=>WPo T O os (v :: ls) vs h1 Q)):WPo T O (⟨none,.call f args⟩ :: os) ls vs h Q:=by
 obtain ⟨n,v,h1,e1,m,ls2,h2,e2,p⟩:=k1
 refine ⟨max n m,ls2,h2,?_,p⟩
 have a1:=run_mono (T:=T) (O:=O) (Nat.le_max_left n m) _ _ _ _ e1
 have a2:=runOps_mono (run_mono (T:=T) (O:=O) (Nat.le_max_right n m)) e2
 simp only [runOps,stepO,wantedV,opc,o_call,e,a1,a2]
theorem w_callv {f:Opd} {g:Nat} {first caps:List V} {args:List Opd} {os:List AOp} {as:List V} (e0:ev ls vs f=some (.fn g first caps)) (e:evs ls vs args=some as) (k1:WPc T O g (first++as++caps) h (fun v h1=>WPo T O os (v :: ls) vs h1 Q)):WPo T O (⟨none,.callv f args⟩ :: os) ls vs h Q:=by
 obtain ⟨n,v,h1,e1,m,ls2,h2,e2,p⟩:=k1
 refine ⟨max n m,ls2,h2,?_,p⟩
 have a1:=run_mono (T:=T) (O:=O) (Nat.le_max_left n m) _ _ _ _ e1
 have a2:=runOps_mono (run_mono (T:=T) (O:=O) (Nat.le_max_right n m)) e2
 simp only [runOps,stepO,wantedV,opc,o_callv,e0,e,a1,a2]
def Rt (rs:List ARes) (Q:V→Heap→Prop):Pred2:=fun vs h=>∃ l,resV vs h rs=some l∧Q (packV l) h
theorem w_fn {f:Nat} {a:AFunc} {args:List V} {Q:V→Heap→Prop} (hO:O f args h=none) (hT:T f=some a) (hl:Nat.beq args.length a.nparams=true) (k:WPx T O a.code (initV a.slots args) h (Rt a.res Q) [] (Rt a.res Q)):WPc T O f args h Q:=by
 obtain ⟨n,ex,vs1,h1,e,p⟩:=k
 cases ex with
 | exit i=>obtain ⟨P,hP,_⟩:=p;cases hP
 | normal=>
  obtain ⟨l,e2,q⟩:=p
  exact ⟨n+1,packV l,h1,by simp only [run,hO,hT,body,hl,e,e2],q⟩
 | ret=>
  obtain ⟨l,e2,q⟩:=p
  exact ⟨n+1,packV l,h1,by simp only [run,hO,hT,body,hl,e,e2],q⟩
theorem w_known {f:Nat} {args:List V} {Q:V→Heap→Prop} {v:V} {h1:Heap} (e:O f args h=some (v,h1)) (q:Q v h1):WPc T O f args h Q:=
 ⟨1,v,h1,by simp only [run,e],q⟩
theorem o_bin_v {op:BinOp} {q:EqK} {x y:Opd} {a b r:V} (hx:ev ls vs x=some a) (hy:ev ls vs y=some b) (e:binV op q a b=some r):opv (.bin op q x y) ls vs h=some (r,h):=by
 show o_bin op q x y ls vs h=_
 simp only [o_bin,hx,hy,binK_eq,e,keep]
theorem w_bool {k:AK} {os:List AOp} {t:Bool} {h1:Heap} (e:opv k ls vs h=some (.bool t,h1)) (k1:t=true→WPo T O os (.bool true :: ls) vs h1 Q) (k2:t=false→WPo T O os (.bool false :: ls) vs h1 Q):WPo T O (⟨none,k⟩ :: os) ls vs h Q:=by
 cases t with
 | true=>exact w_op e (k1 rfl)
 | false=>exact w_op e (k2 rfl)
theorem w_lss {q:EqK} {x y:Opd} {os:List AOp} {k:IntKind} {a b:Int} (hx:ev ls vs x=some (.int k a)) (hy:ev ls vs y=some (.int k b)) (k1:a<b→WPo T O os (.bool true :: ls) vs h Q) (k2:b≤a→WPo T O os (.bool false :: ls) vs h Q):WPo T O (⟨none,.bin .lss q x y⟩ :: os) ls vs h Q:=
 w_bool (o_bin_v hx hy (by simp only [binV,if_true];rfl)) (fun e=>k1 (of_decide_eq_true e)) (fun e=>k2 (by have:=of_decide_eq_false e;omega))
theorem w_leq {q:EqK} {x y:Opd} {os:List AOp} {k:IntKind} {a b:Int} (hx:ev ls vs x=some (.int k a)) (hy:ev ls vs y=some (.int k b)) (k1:a≤b→WPo T O os (.bool true :: ls) vs h Q) (k2:b<a→WPo T O os (.bool false :: ls) vs h Q):WPo T O (⟨none,.bin .leq q x y⟩ :: os) ls vs h Q:=
 w_bool (o_bin_v hx hy (by simp only [binV,if_true];rfl)) (fun e=>k1 (of_decide_eq_true e)) (fun e=>k2 (by have:=of_decide_eq_false e;omega))
theorem w_gtr {q:EqK} {x y:Opd} {os:List AOp} {k:IntKind} {a b:Int} (hx:ev ls vs x=some (.int k a)) (hy:ev ls vs y=some (.int k b)) (k1:b<a→WPo T O os (.bool true :: ls) vs h Q) (k2:a≤b→WPo T O os (.bool false :: ls) vs h Q):WPo T O (⟨none,.bin .gtr q x y⟩ :: os) ls vs h Q:=
 w_bool (o_bin_v hx hy (by simp only [binV,if_true];rfl)) (fun e=>k1 (by have:=of_decide_eq_true e;omega)) (fun e=>k2 (by have:=of_decide_eq_false e;omega))
theorem w_geq {q:EqK} {x y:Opd} {os:List AOp} {k:IntKind} {a b:Int} (hx:ev ls vs x=some (.int k a)) (hy:ev ls vs y=some (.int k b)) (k1:b≤a→WPo T O os (.bool true :: ls) vs h Q) (k2:a<b→WPo T O os (.bool false :: ls) vs h Q):WPo T O (⟨none,.bin .geq q x y⟩ :: os) ls vs h Q:=
 w_bool (o_bin_v hx hy (by simp only [binV,if_true];rfl)) (fun e=>k1 (by have:=of_decide_eq_true e;omega)) (fun e=>k2 (by have:=of_decide_eq_false e;omega))
theorem w_eql {q:EqK} {x y:Opd} {os:List AOp} {k:IntKind} {a b:Int} (hx:ev ls vs x=some (.int k a)) (hy:ev ls vs y=some (.int k b)) (k1:a=b→WPo T O os (.bool true :: ls) vs h Q) (k2:a≠b→WPo T O os (.bool false :: ls) vs h Q):WPo T O (⟨none,.bin .eql q x y⟩ :: os) ls vs h Q:=
 w_bool (o_bin_v hx hy (by simp only [binV,if_true];rfl)) (fun e=>k1 (by simpa using e)) (fun e=>k2 (by simpa using e))
theorem w_neq {q:EqK} {x y:Opd} {os:List AOp} {k:IntKind} {a b:Int} (hx:ev ls vs x=some (.int k a)) (hy:ev ls vs y=some (.int k b)) (k1:a≠b→WPo T O os (.bool true :: ls) vs h Q) (k2:a=b→WPo T O os (.bool false :: ls) vs h Q):WPo T O (⟨none,.bin .neq q x y⟩ :: os) ls vs h Q:=
 w_bool (o_bin_v hx hy (by simp only [binV,if_true];rfl)) (fun e=>k1 (by simpa using e)) (fun e=>k2 (by simpa using e))
theorem w_add {q:EqK} {x y:Opd} {os:List AOp} {k:IntKind} {a b:Int} (hx:ev ls vs x=some (.int k a)) (hy:ev ls vs y=some (.int k b)) (hw:k.wrap (a+b)=a+b) (k1:WPo T O os (.int k (a+b) :: ls) vs h Q):WPo T O (⟨none,.bin .add q x y⟩ :: os) ls vs h Q:=
 w_op (o_bin_v hx hy (by simp only [binV,if_true,intBin,hw])) k1
end rules
end Am
namespace Am
open Go
def ExtX (S:List Nat) (h h':Heap):Prop:=h.n≤h'.n∧∀ j,j<h.n→j∉S→h'.get j=h.get j
abbrev Ext (h h':Heap):Prop:=ExtX [] h h'
theorem ExtX.refl (S:List Nat) (h:Heap):ExtX S h h:=⟨Nat.le_refl _,fun _ _ _=>rfl⟩
theorem ExtX.trans {S:List Nat} {a b c:Heap} (h:ExtX S a b) (k:ExtX S b c):ExtX S a c:=
 ⟨Nat.le_trans h.1 k.1,fun j hj hs=>by rw [k.2 j (Nat.lt_of_lt_of_le hj h.1) hs,h.2 j hj hs]⟩
theorem ExtX.alloc {S:List Nat} (h:Heap) (o:Obj):ExtX S h (h.alloc o):=⟨Nat.le_succ _,fun j hj _=>by rw [Heap.get_alloc,if_neg (by omega)]⟩
theorem ExtX.set {S:List Nat} (h:Heap) {id:Nat} (hs:id∈S) (o:Obj):ExtX S h (h.set id o):=⟨Nat.le_refl _,fun j _ hj=>by rw [Heap.get_set,if_neg (fun e=>by rw [e] at hj;exact hj hs)]⟩
theorem ExtX.mono {S S':List Nat} {a b:Heap} (h:ExtX S a b) (hs:∀ j∈S,j∈S'):ExtX S' a b:=⟨h.1,fun j hj hn=>h.2 j hj (fun e=>hn (hs j e))⟩
theorem ExtX.get {S:List Nat} {a b:Heap} (h:ExtX S a b) {j:Nat} {o:Option Obj} (hj:j<a.n) (hs:j∉S) (ho:a.get j=o):b.get j=o:=by rw [h.2 j hj hs,ho]
theorem ExtX.step {S S':List Nat} {a b c:Heap} (h:ExtX S a b) (k:ExtX S' b c) (hs:∀ j∈S',j∈S∨a.n≤j):ExtX S a c:=
 ⟨Nat.le_trans h.1 k.1,fun j hj hn=>by
  rw [k.2 j (Nat.lt_of_lt_of_le hj h.1) (fun e=>by rcases hs j e with e | e;exact hn e;omega),h.2 j hj hn]⟩
def Vin (n:Nat):V→Prop
 | .sl id _ _ _ _ _=>id<n
 | _=>True
def RS (h:Heap) (esz:Nat) (v:V) (l:List (List V)):Prop:=
 srcCells h esz v=some (l.length,l.flatten)∧isSl v=true∧Vin h.n v∧∀ c∈l,c.length=esz
theorem RS.nils (h:Heap) (esz:Nat):RS h esz .nils []:=⟨rfl,rfl,trivial,by simp⟩
theorem flatAll_agg (esz:Nat):∀ (l:List (List V)),(∀ c∈l,c.length=esz∧allOne c=true)→flatAll esz (l.map .agg)=some l.flatten
 | [],_=>rfl
 | c :: l,h=>by
  obtain ⟨h1,h2⟩:=h c (by simp)
  have ih:=flatAll_agg esz l (fun c hc=>h c (by simp [hc]))
  simp only [List.map_cons,flatAll,V.cells,h1,h2,ih,Bool.and_true]
  rw [show Nat.beq esz esz=true from nbeq.2 rfl]
  rfl
theorem RS.vec (h:Heap) {esz:Nat} {l:List (List V)} (hl:∀ c∈l,c.length=esz∧allOne c=true):RS h esz (.vec (l.map .agg)) l:=by
 refine ⟨?_,rfl,trivial,fun c hc=>(hl c hc).1⟩
 simp only [srcCells,flatAll_agg esz l hl,List.length_map]
theorem srcCells_keep {h h':Heap} {esz:Nat} {v:V} (hk:∀ id off len ver e f,v=.sl id off len ver e f→h'.get id=h.get id):srcCells h' esz v=srcCells h esz v:=by
 cases v <;> try rfl
 simp only [srcCells,hk _ _ _ _ _ _ rfl]
theorem RS.ext {S:List Nat} {h h':Heap} {esz:Nat} {v:V} {l:List (List V)} (hE:ExtX S h h') (hr:RS h esz v l) (hs:∀ id off len ver e f,v=.sl id off len ver e f→id∉S):RS h' esz v l:=by
 obtain ⟨h1,h2,h3,h4⟩:=hr
 refine ⟨?_,h2,?_,h4⟩
 ·rw [srcCells_keep (h:=h) (fun id off len ver e f hv=>?_)]
  ·exact h1
  ·subst hv;exact hE.2 _ h3 (hs _ _ _ _ _ _ rfl)
 ·cases v <;> try trivial
  exact Nat.lt_of_lt_of_le h3 hE.1
theorem RS.ext0 {h h':Heap} {esz:Nat} {v:V} {l:List (List V)} (hE:Ext h h') (hr:RS h esz v l):RS h' esz v l:=hr.ext hE (by simp)
theorem flatten_slot {l:List (List V)} {esz:Nat} (hl:∀ c∈l,c.length=esz):∀ (j:Nat) (hj:j<l.length),(l.flatten.drop (j * esz)).take esz=l[j]:=by
 induction l with
 | nil=>intro j hj;cases hj
 | cons a l ih=>
  intro j hj
  have ha:=hl a (by simp)
  cases j with
  | zero=>simp [← ha]
  | succ j=>
   have:=ih (fun c hc=>hl c (by simp [hc])) j (by simpa using hj)
   rw [List.flatten_cons,List.getElem_cons_succ,← this,show (j+1) * esz=a.length+j * esz by rw [ha,Nat.add_mul];omega,List.drop_append,List.drop_of_length_le (by omega)]
   simp
theorem flatten_len {l:List (List V)} {esz:Nat} (hl:∀ c∈l,c.length=esz):l.flatten.length=l.length * esz:=by
 induction l with
 | nil=>simp
 | cons a l ih=>
  rw [List.flatten_cons,List.length_append,ih (fun c hc=>hl c (by simp [hc])),hl a (by simp),List.length_cons,Nat.add_mul];omega
theorem good_le {c:List V} {cur low ver e e':Nat} (h:good c cur low ver e=true) (he:e'≤e):good c cur low ver e'=true:=by
 unfold good at h ⊢
 split at h
 ·rw [nble] at h ⊢;omega
 ·simp only [Bool.and_eq_true] at h ⊢
  rw [nblt,nble,nble] at h ⊢
  omega
theorem good_len {c:List V} {cur low ver e:Nat} (h:good c cur low ver e=true):e≤c.length:=by
 unfold good at h
 split at h
 ·rw [nble] at h;omega
 ·simp only [Bool.and_eq_true] at h
  rw [nblt,nble,nble] at h
  omega
def At (h:Heap) (p:V) (c:List V):Prop:=
 (∃ v o,p=.vptr v o∧o≤v.cells.length∧v.cells.drop o=c)∨
 ∃ id o ver hi cs cur low,p=.ptr id o ver hi∧h.get id=some (.cells cs cur low)∧good cs cur low ver (o+c.length)=true∧o+c.length≤hi∧(cs.drop o).take c.length=c
def padd:V→Nat→V
 | .ptr id o ver hi,d=>.ptr id (o+d) ver hi
 | .vptr v o,d=>.vptr v (o+d)
 | v,_=>v
theorem At.fadr {h:Heap} {p:V} {c:List V} (k:At h p c) {d:Nat} (hd:d≤c.length):At h (padd p d) (c.drop d):=by
 rcases k with ⟨v,o,rfl,h1,h2⟩ | ⟨id,o,ver,hi,cs,cur,low,rfl,h1,h2,h3,h4⟩
 ·refine .inl ⟨v,o+d,rfl,?_,?_⟩
  ·rw [← h2] at hd;simp at hd;omega
  ·rw [← h2,List.drop_drop]
 ·refine .inr ⟨id,o+d,ver,hi,cs,cur,low,rfl,h1,?_,?_,?_⟩
  ·rw [List.length_drop,show o+d+(c.length - d)=o+c.length by omega];exact h2
  ·rw [List.length_drop];omega
  ·rw [List.length_drop,← List.drop_drop,← List.drop_take,h4]
section rules
variable {T:Nat→Option AFunc} {O:CallF} {vs ls:List V} {h:Heap} {Q:List V→Heap→Prop} {os:List AOp}
theorem At.one {p x:V} {c:List V} (k:At h p (x :: c)):rd h false 1 p=some x:=by
 rcases k with ⟨v,o,rfl,h1,h2⟩ | ⟨id,o,ver,hi,cs,cur,low,rfl,h1,h2,h3,h4⟩
 ·simp only [rd,ldC,nth_eq]
  have:(v.cells.drop o)[0]? = some x:=by rw [h2];rfl
  simpa using this
 ·simp only [List.length_cons] at h2 h3 h4
  simp only [rd,h1,ldC,nth_eq]
  have h5:Nat.ble (o+1) hi=true:=by rw [nble];omega
  rw [h5,good_le h2 (e':=o+1) (by omega)]
  simp only [Bool.and_self]
  have:((cs.drop o).take (c.length+1))[0]? = some x:=by rw [h4];rfl
  simpa using this
theorem At.agg {p:V} {c:List V} (k:At h p c) {n:Nat} (hn:n≤c.length):rd h true n p=some (.agg (c.take n)):=by
 rcases k with ⟨v,o,rfl,h1,h2⟩ | ⟨id,o,ver,hi,cs,cur,low,rfl,h1,h2,h3,h4⟩
 ·have:Nat.ble (o+n) v.cells.length=true:=by rw [nble];rw [← h2] at hn;simp at hn;omega
  simp only [rd,ldC,this,h2]
 ·simp only [rd,h1,ldC]
  have h5:Nat.ble (o+n) hi=true:=by rw [nble];omega
  have h6:=good_len h2
  have h7:Nat.ble (o+n) cs.length=true:=by rw [nble];omega
  rw [h5,good_le h2 (e':=o+n) (by omega)]
  simp only [Bool.and_self,h7]
  rw [← h4,List.take_take,Nat.min_eq_left hn]
theorem w_fadr {d:Nat} {x:Opd} {p:V} {c:List V} (hx:ev ls vs x=some p) (k:At h p c) (hd:Nat.ble d c.length=true) (k1:At h (padd p d) (c.drop d)→WPo T O os (padd p d :: ls) vs h Q):WPo T O (⟨none,.fadr d x⟩ :: os) ls vs h Q:=by
 have hd:=nble.1 hd
 refine w_op ?_ (k1 (k.fadr hd))
 show o_fadr d x ls vs h=_
 simp only [o_fadr,hx]
 rcases k with ⟨v,o,rfl,_⟩ | ⟨id,o,ver,hi,cs,cur,low,rfl,_⟩ <;> rfl
theorem w_load1 {n:Nat} {a:Opd} {p x:V} {c:List V} (ha:ev ls vs a=some p) (k:At h p (x :: c)) (hn:n=1) (k1:WPo T O os (x :: ls) vs h Q):WPo T O (⟨none,.load false n a⟩ :: os) ls vs h Q:=by
 subst hn
 refine w_op ?_ k1
 show o_load false 1 a ls vs h=_
 simp only [o_load,ha,k.one,keep]
theorem w_loadA {n:Nat} {a:Opd} {p:V} {c:List V} (ha:ev ls vs a=some p) (k:At h p c) (hn:Nat.ble n c.length=true) (k1:WPo T O os (.agg (c.take n) :: ls) vs h Q):WPo T O (⟨none,.load true n a⟩ :: os) ls vs h Q:=by
 have hn:=nble.1 hn
 refine w_op ?_ k1
 show o_load true n a ls vs h=_
 simp only [o_load,ha,k.agg hn,keep]
theorem w_len {x:Opd} {v:V} {esz:Nat} {l:List (List V)} (hx:ev ls vs x=some v) (hr:RS h esz v l) (k1:WPo T O os (.int .i64 (Int.ofNat l.length) :: ls) vs h Q):WPo T O (⟨none,.len .slice x⟩ :: os) ls vs h Q:=by
 refine w_op ?_ k1
 show o_len .slice x ls vs h=_
 obtain ⟨h1,h2,h3,h4⟩:=hr
 simp only [o_len,hx]
 cases v with
 | nils=>
  simp only [srcCells,Option.some.injEq,Prod.mk.injEq] at h1
  rw [← h1.1];rfl
 | vec es=>
  simp only [srcCells] at h1
  split at h1
  ·simp only [Option.some.injEq,Prod.mk.injEq] at h1
   simp only [lenV,keep,h1.1]
  ·cases h1
 | sl id off len ver e full=>
  simp only [srcCells] at h1
  split at h1
  ·split at h1
   ·simp only [Option.some.injEq,Prod.mk.injEq] at h1
    simp only [lenV,keep,h1.1]
   ·cases h1
  ·cases h1
 | _=>cases h2
theorem flatAll_get {esz:Nat} : ∀ {es:List V} {cs:List V},flatAll esz es=some cs→∀ (j:Nat) (hj:j<es.length),(es[j]).cells.length=esz∧(cs.drop (j * esz)).take esz=(es[j]).cells
 | [],_,_,j,hj=>by cases hj
 | e :: es,cs,h,j,hj=>by
  simp only [flatAll] at h
  split at h
  ·rename_i hb
   simp only [Bool.and_eq_true,nbeq] at hb
   split at h
   ·rename_i r hr
    simp only [Option.some.injEq] at h
    subst h
    cases j with
    | zero=>simp [hb.1]
    | succ j=>
     have:=flatAll_get hr j (by simpa using hj)
     simp only [List.getElem_cons_succ]
     refine ⟨this.1,?_⟩
     rw [← this.2,show (j+1) * esz=e.cells.length+j * esz by rw [hb.1,Nat.add_mul];omega,List.drop_append,List.drop_of_length_le (by omega)]
     simp
   ·cases h
  ·cases h
def slotP (v:V) (j:Nat):V:=
 match v with
 | .vec es=>.vptr (es.getD j .any) 0
 | .sl id off len ver e _=>.ptr id (off+j * e) ver (off+len * e)
 | _=>.nilp
theorem slot_at {esz:Nat} {v:V} {l:List (List V)} {j:Nat} (hr:RS h esz v l) (hj:j<l.length):At h (slotP v j) l[j]:=by
 obtain ⟨h1,h2,h3,h4⟩:=hr
 have hslot:=flatten_slot h4 j hj
 have hlj:l[j].length=esz:=h4 _ (List.getElem_mem hj)
 cases v with
 | nils=>
  simp only [srcCells,Option.some.injEq,Prod.mk.injEq] at h1
  omega
 | vec es=>
  simp only [srcCells] at h1
  split at h1
  ·rename_i cs hcs
   simp only [Option.some.injEq,Prod.mk.injEq] at h1
   obtain ⟨e1,rfl⟩:=h1
   have hje:j<es.length:=by omega
   obtain ⟨g1,g2⟩:=flatAll_get hcs j hje
   refine .inl ⟨es[j],0,by simp [slotP,List.getD,hje],Nat.zero_le _,?_⟩
   rw [List.drop_zero,← g2,hslot]
  ·cases h1
 | sl id off len ver e full=>
  simp only [srcCells] at h1
  split at h1
  ·rename_i c cur low hg
   split at h1
   ·rename_i hgd
    simp only [Bool.and_eq_true,nbeq] at hgd
    obtain ⟨hgd,rfl⟩:=hgd
    simp only [Option.some.injEq,Prod.mk.injEq] at h1
    obtain ⟨e1,e2⟩:=h1
    have hm:j * e+e≤len * e:=by
     have:=Nat.mul_le_mul_right e (show j+1≤len by omega)
     rw [Nat.add_mul] at this;omega
    refine .inr ⟨id,off+j * e,ver,off+len * e,c,cur,low,rfl,hg,?_,?_,?_⟩
    ·rw [hlj];exact good_le hgd (by omega)
    ·rw [hlj];omega
    ·rw [hlj]
     rw [← e2,List.drop_take,List.take_take,List.drop_drop,Nat.min_eq_left (by omega)] at hslot
     exact hslot
   ·cases h1
  ·cases h1
 | _=>cases h2
theorem w_iadrS {esz:Nat} {x i:Opd} {v:V} {l:List (List V)} {k:IntKind} {j:Nat} (hx:ev ls vs x=some v) (hi:ev ls vs i=some (.int k (Int.ofNat j))) (hr:RS h esz v l) (hj:j<l.length)
  (k1:WPo T O os (slotP v j :: ls) vs h Q):WPo T O (⟨none,.iadr esz x i⟩ :: os) ls vs h Q:=by
 obtain ⟨h1,h2,h3,h4⟩:=hr
 cases v with
 | nils=>
  simp only [srcCells,Option.some.injEq,Prod.mk.injEq] at h1
  omega
 | vec es=>
  simp only [srcCells] at h1
  split at h1
  ·rename_i cs hcs
   simp only [Option.some.injEq,Prod.mk.injEq] at h1
   obtain ⟨e1,rfl⟩:=h1
   have hje:j<es.length:=by omega
   obtain ⟨g1,g2⟩:=flatAll_get hcs j hje
   refine w_op ?_ k1
   show o_iadr esz x i ls vs h=_
   have hn:nth es j=some es[j]:=by rw [nth_eq,List.getElem?_eq_getElem hje]
   simp only [o_iadr,hx,hi,idxNat,natOf,nblt.2 hje,hn,nbeq.2 g1,slotP,List.getD,List.getElem?_eq_getElem hje,Option.getD_some]
  ·cases h1
 | sl id off len ver e full=>
  simp only [srcCells] at h1
  split at h1
  ·split at h1
   ·rename_i hgd
    simp only [Bool.and_eq_true,nbeq] at hgd
    obtain ⟨hgd,rfl⟩:=hgd
    simp only [Option.some.injEq,Prod.mk.injEq] at h1
    obtain ⟨e1,e2⟩:=h1
    refine w_op ?_ k1
    show o_iadr e x i ls vs h=_
    simp only [o_iadr,hx,hi,idxNat,natOf,nblt.2 (show j<len by omega),show Nat.beq e e=true from nbeq.2 rfl,slotP]
   ·cases h1
  ·cases h1
 | _=>cases h2
theorem w_iadr {esz:Nat} {x i:Opd} {v:V} {l:List (List V)} {k:IntKind} {j:Nat} (hx:ev ls vs x=some v) (hi:ev ls vs i=some (.int k (Int.ofNat j))) (hr:RS h esz v l) (hj:j<l.length)
  (k1:∀ p,At h p l[j]→WPo T O os (p :: ls) vs h Q):WPo T O (⟨none,.iadr esz x i⟩ :: os) ls vs h Q:=
 w_iadrS hx hi hr hj (k1 _ (slot_at hr hj))
end rules
end Am
namespace Am
open Go
def slIds:V→List Nat
 | .sl id _ _ _ _ _=>[id]
 | _=>[]
def Ow (h:Heap) (esz:Nat) (v:V) (l:List (List V)):Prop:=
 RS h esz v l∧(v=.nils∨∃ id off len ver full cs low,v=.sl id off len ver esz full∧h.get id=some (.cells cs ver low))
theorem Ow.rs {h:Heap} {esz:Nat} {v:V} {l:List (List V)} (k:Ow h esz v l):RS h esz v l:=k.1
theorem Ow.nils (h:Heap) (esz:Nat):Ow h esz .nils []:=⟨RS.nils h esz,.inl rfl⟩
theorem Ow.ext {S:List Nat} {h h':Heap} {esz:Nat} {v:V} {l:List (List V)} (hE:ExtX S h h') (hr:Ow h esz v l) (hs:∀ j∈slIds v,j∉S):Ow h' esz v l:=by
 obtain ⟨h1,h2⟩:=hr
 refine ⟨h1.ext hE (fun id off len ver e f hv=>hs id (by rw [hv];simp [slIds])),?_⟩
 rcases h2 with h2 | ⟨id,off,len,ver,full,cs,low,rfl,hg⟩
 ·exact .inl h2
 ·exact .inr ⟨id,off,len,ver,full,cs,low,rfl,hE.get h1.2.2.1 (hs id (by simp [slIds])) hg⟩
theorem RS.lt {h:Heap} {esz:Nat} {v:V} {l:List (List V)} (k:RS h esz v l):∀ j∈slIds v,j<h.n:=by
 intro j hj
 cases v <;> simp [slIds] at hj
 subst hj
 exact k.2.2.1
theorem good_refl {c:List V} {cur low e:Nat} (he:e≤c.length):good c cur low cur e=true:=by
 unfold good
 rw [show Nat.beq cur cur=true from nbeq.2 rfl]
 exact nble.2 he
theorem Ow.new {h:Heap} {esz:Nat} {l:List (List V)} (hl:∀ c∈l,c.length=esz) (f:Bool):Ow (h.alloc (.cells l.flatten 0 big)) esz (.sl h.n 0 l.length 0 esz f) l:=by
 have hg:(h.alloc (.cells l.flatten 0 big)).get h.n=some (.cells l.flatten 0 big):=by rw [Heap.get_alloc,if_pos rfl]
 have hlen:=flatten_len hl
 refine ⟨⟨?_,rfl,?_,hl⟩,?_⟩
 ·simp only [srcCells,hg]
  rw [good_refl (by omega),show Nat.beq esz esz=true from nbeq.2 rfl]
  simp only [List.drop_zero,Bool.and_self,Option.some.injEq,Prod.mk.injEq,true_and]
  rw [List.take_of_length_le (by omega)]
 ·show h.n<h.n+1
  omega
 ·exact .inr ⟨_,_,_,_,_,_,_,rfl,hg⟩
theorem roomy_iff {n:Nat} : roomy n=true↔n≤4294967296:=by unfold roomy;exact nble
theorem appV_ok {h:Heap} {esz:Nat} {v:V} {l l2:List (List V)} (ho:Ow h esz v l) (h2:∀ c∈l2,c.length=esz) (hroom:l.length+l2.length≤4294967296) :
  ∃ v' h',appV h esz v l2.length l2.flatten=some (v',h')∧Ow h' esz v' (l++l2)∧ExtX (slIds v) h h'∧(∀ j∈slIds v',j∈slIds v∨h.n≤j):=by
 cases l2 with
 | nil=>
  refine ⟨v,h,?_,by simpa using ho,ExtX.refl _ _,fun j hj=>.inl hj⟩
  rcases ho.2 with rfl | ⟨id,off,len,ver,full,cs,low,rfl,hg⟩ <;> rfl
 | cons a r=>
  have hlen2:=flatten_len h2
  have hlen1:=flatten_len ho.1.2.2.2
  have hall:∀ c∈l++a :: r,c.length=esz:=by
   intro c hc
   rcases List.mem_append.1 hc with hc | hc
   ·exact ho.1.2.2.2 c hc
   ·exact h2 c hc
  rcases ho.2 with rfl | ⟨id,off,len,ver,full,cs,low,rfl,hg⟩
  ·have hl0:l=[]:=by
    have:=ho.1.1
    simp only [srcCells,Option.some.injEq,Prod.mk.injEq] at this
    exact List.eq_nil_of_length_eq_zero this.1.symm
   subst hl0
   refine ⟨.sl h.n 0 (a :: r).length 0 esz false,h.alloc (.cells (a :: r).flatten 0 big),?_,?_,?_,?_⟩
   ·simp only [appV,List.length_cons]
    rw [roomy_iff.2 (by simp at hroom;omega)]
   ·exact Ow.new h2 false
   ·exact ExtX.alloc _ _
   ·intro j hj;simp [slIds] at hj;exact .inr (by omega)
  ·cases full with
   | true=>
    obtain ⟨e1,_,e3,_⟩:=ho.1
    simp only [srcCells,hg] at e1
    split at e1
    ·rename_i hgd
     simp only [Bool.and_eq_true,nbeq] at hgd
     simp only [Option.some.injEq,Prod.mk.injEq] at e1
     obtain ⟨rfl,e1⟩:=e1
     refine ⟨.sl h.n 0 (l++a :: r).length 0 esz false,h.alloc (.cells (l++a :: r).flatten 0 big),?_,?_,?_,?_⟩
     ·simp only [appV,List.length_cons,hg,hgd.1,Bool.and_true]
      rw [roomy_iff.2 (by simp at hroom;omega),show Nat.beq esz esz=true from nbeq.2 rfl]
      simp only [Bool.and_self,Bool.true_and,e1]
      simp
     ·exact Ow.new hall false
     ·exact ExtX.alloc _ _
     ·intro j hj;simp [slIds] at hj;exact .inr (by omega)
    ·cases e1
   | false=>
    obtain ⟨e1,_,e3,_⟩:=ho.1
    simp only [srcCells,hg] at e1
    split at e1
    ·rename_i hgd
     simp only [Bool.and_eq_true,nbeq] at hgd
     simp only [Option.some.injEq,Prod.mk.injEq] at e1
     obtain ⟨rfl,e1⟩:=e1
     have hgl:=good_len hgd.1
     have hv:Nat.beq ver ver=true:=nbeq.2 rfl
     have he:Nat.beq esz esz=true:=nbeq.2 rfl
     have hidn:id<h.n:=e3
     by_cases hend:off+l.length * esz=cs.length
     ·refine ⟨.sl id off (l.length+(a :: r).length) (ver+1) esz false,h.set id (.cells (cs++(a :: r).flatten) (ver+1) low),?_,?_,?_,?_⟩
      ·simp only [appV,List.length_cons,hg,hgd.1,he,hv,nbeq.2 hend,Bool.and_self,Bool.and_true]
       rw [roomy_iff.2 (by simp at hroom;omega)]
       rfl
      ·have hg':(h.set id (.cells (cs++(a :: r).flatten) (ver+1) low)).get id=some (.cells (cs++(a :: r).flatten) (ver+1) low):=by rw [Heap.get_set,if_pos rfl]
       refine ⟨⟨?_,rfl,hidn,hall⟩,.inr ⟨_,_,_,_,_,_,_,rfl,hg'⟩⟩
       simp only [srcCells,hg',he]
       rw [good_refl (by rw [List.length_append,hlen2,Nat.add_mul];omega)]
       simp only [Bool.and_self,Option.some.injEq,Prod.mk.injEq,List.length_append,true_and]
       rw [List.flatten_append,← e1,List.drop_append_of_le_length (by omega),List.take_append,List.length_drop,Nat.add_mul]
       have hx:l.length * esz+(a :: r).length * esz - (cs.length - off)=(a :: r).length * esz:=by omega
       rw [hx]
       congr 1
       ·rw [List.take_of_length_le (by simp;omega),List.take_of_length_le (by simp;omega)]
       ·rw [List.take_of_length_le (by rw [hlen2];omega)]
      ·exact ExtX.set _ (by simp [slIds]) _
      ·intro j hj;simp [slIds] at hj;exact .inl (by simp [slIds,hj])
     ·have hend':Nat.beq (off+l.length * esz) cs.length=false:=by
       cases hb:Nat.beq (off+l.length * esz) cs.length with
       | false=>rfl
       | true=>exact absurd (nbeq.1 hb) hend
      refine ⟨.sl id off (l.length+(a :: r).length) (ver+1) esz false,h.set id (.cells (cs.take (off+l.length * esz)++(a :: r).flatten) (ver+1) (minN low (off+l.length * esz))),?_,?_,?_,?_⟩
      ·simp only [appV,List.length_cons,hg,hgd.1,he,hv,hend',Bool.and_self,Bool.and_true]
       rw [roomy_iff.2 (by simp at hroom;omega)]
       rfl
      ·have hg':(h.set id (.cells (cs.take (off+l.length * esz)++(a :: r).flatten) (ver+1) (minN low (off+l.length * esz)))).get id=some (.cells (cs.take (off+l.length * esz)++(a :: r).flatten) (ver+1) (minN low (off+l.length * esz))):=by rw [Heap.get_set,if_pos rfl]
       refine ⟨⟨?_,rfl,hidn,hall⟩,.inr ⟨_,_,_,_,_,_,_,rfl,hg'⟩⟩
       simp only [srcCells,hg',he]
       have htl:(cs.take (off+l.length * esz)).length=off+l.length * esz:=by simp;omega
       rw [good_refl (by rw [List.length_append,htl,hlen2,Nat.add_mul];omega)]
       simp only [Bool.and_self,Option.some.injEq,Prod.mk.injEq,List.length_append,true_and]
       rw [List.flatten_append,← e1,List.drop_append_of_le_length (by rw [htl];omega),List.take_append,List.length_drop,htl,Nat.add_mul]
       have hx:l.length * esz+(a :: r).length * esz - (off+l.length * esz - off)=(a :: r).length * esz:=by omega
       rw [hx]
       congr 1
       ·rw [List.take_of_length_le (by simp;omega),List.drop_take]
        congr 1;omega
       ·rw [List.take_of_length_le (by rw [hlen2];omega)]
      ·exact ExtX.set _ (by simp [slIds]) _
      ·intro j hj;simp [slIds] at hj;exact .inl (by simp [slIds,hj])
    ·cases e1
def Fr (h0:Heap) (v0:V) (h:Heap) (v:V):Prop:=ExtX (slIds v0) h0 h∧∀ j∈slIds v,j∈slIds v0∨h0.n≤j
theorem Fr.refl (h:Heap) (v:V):Fr h v h v:=⟨ExtX.refl _ _,fun _ h=>.inl h⟩
theorem Fr.trans {a b c:Heap} {u v w:V} (h:Fr a u b v) (k:Fr b v c w):Fr a u c w:=by
 refine ⟨⟨Nat.le_trans h.1.1 k.1.1,fun j hj hn=>?_⟩,fun j hj=>?_⟩
 ·rw [k.1.2 j (Nat.lt_of_lt_of_le hj h.1.1) (fun e=>?_),h.1.2 j hj hn]
  rcases h.2 j e with e | e
  ·exact hn e
  ·omega
 ·rcases k.2 j hj with e | e
  ·exact h.2 j e
  ·have:=h.1.1;exact .inr (by omega)
section rules
variable {T:Nat→Option AFunc} {O:CallF} {vs ls:List V} {h:Heap} {Q:List V→Heap→Prop} {os:List AOp}
theorem w_app {esz:Nat} {s x:Opd} {v xv:V} {l l2:List (List V)} (hs:ev ls vs s=some v) (hx:ev ls vs x=some xv) (ho:Ow h esz v l) (hr:RS h esz xv l2) (hroom:l.length+l2.length≤4294967296)
  (k1:∀ v' h',Ow h' esz v' (l++l2)→Fr h v h' v'→WPo T O os (v' :: ls) vs h' Q):WPo T O (⟨none,.app esz s x⟩ :: os) ls vs h Q:=by
 obtain ⟨v',h',a1,a2,a3,a4⟩:=appV_ok ho hr.2.2.2 hroom
 refine w_op ?_ (k1 v' h' a2 ⟨a3,a4⟩)
 show o_app esz s x ls vs h=_
 simp only [o_app,hs,hx,hr.1,a1]
theorem w_bslice {n esz:Nat} {zero:List V} {parts:List (Nat×Nat×Opd)} {ps:List (Nat×Nat×V)} {cs:List V} (l:List (List V)) (hp:evp ls vs parts=some ps) (hf:fillP (rep n zero) ps=some cs) (hc:cs=l.flatten) (hn:l.length=n) (hl:∀ c∈l,c.length=esz)
  (k1:∀ v' h',Ow h' esz v' l→Fr h .nils h' v'→WPo T O os (v' :: ls) vs h' Q):WPo T O (⟨none,.bslice n esz zero parts⟩ :: os) ls vs h Q:=by
 subst hc hn
 refine w_op (v:=.sl h.n 0 l.length 0 esz true) (h1:=h.alloc (.cells l.flatten 0 big)) ?_ (k1 _ _ (Ow.new hl true) ⟨ExtX.alloc _ _,fun j hj=>by simp [slIds] at hj;exact .inr (by omega)⟩)
 show o_bslice l.length esz zero parts ls vs h=_
 simp only [o_bslice,hp,hf]
def plainK:AK→Bool
 | .build _ _=>false
 | .mx _ _=>false
 | .mn _ _=>false
 | _=>true
theorem w_opk {k:AK} {v:V} (hp:plainK k=true) (e:opv k ls vs h=some (v,h)) (k1:WPo T O os (v :: ls) vs h Q):WPo T O (⟨none,k⟩ :: os) ls vs h Q:=w_op e k1
theorem over_all:∀ {a b:List V},a.length=b.length→over a b=a
 | [],[],_=>rfl
 | x :: a,y :: b,h=>by simp only [over];rw [over_all (by simpa using h)]
 | [],_ :: _,h=>by cases h
 | _ :: _,[],h=>by cases h
def Own (h:Heap) (id:Nat) (cs:List V):Prop:=id<h.n∧∃ low,h.get id=some (.cells cs 0 low)
theorem Own.ext {S:List Nat} {h h':Heap} {id:Nat} {cs:List V} (hE:ExtX S h h') (k:Own h id cs) (hs:id∉S):Own h' id cs:=by
 obtain ⟨h1,low,h2⟩:=k
 exact ⟨Nat.lt_of_lt_of_le h1 hE.1,low,hE.get h1 hs h2⟩
theorem Own.ext0 {h h':Heap} {id:Nat} {cs:List V} (hE:Ext h h') (k:Own h id cs):Own h' id cs:=k.ext hE (by simp)
theorem Own.at {h:Heap} {id hi:Nat} {cs:List V} (k:Own h id cs) (hl:cs.length=hi):At h (.ptr id 0 0 hi) cs:=by
 obtain ⟨_,low,h2⟩:=k
 subst hl
 exact .inr ⟨id,0,0,_,cs,0,low,rfl,h2,good_refl (by omega),by omega,by simp⟩
theorem w_box {size:Nat} {x:Opd} {v:V} (hx:ev ls vs x=some v) (hl:v.cells.length=size) (h1:allOne v.cells=true)
  (k1:∀ id h',Own h' id v.cells→h.n≤id→Ext h h'→WPo T O os (.ptr id 0 0 size :: ls) vs h' Q):WPo T O (⟨none,.box size x⟩ :: os) ls vs h Q:=by
 refine w_op (v:=.ptr h.n 0 0 size) (h1:=h.alloc (.cells v.cells 0 0)) ?_ (k1 h.n _ ⟨by simp,0,by rw [Heap.get_alloc,if_pos rfl]⟩ (Nat.le_refl _) (ExtX.alloc _ _))
 show o_box size x ls vs h=_
 simp only [o_box,hx,h1,nbeq.2 hl,Bool.and_self]
theorem w_alloc {zero:List V} (k1:∀ id h',Own h' id zero→h.n≤id→Ext h h'→WPo T O os (.ptr id 0 0 zero.length :: ls) vs h' Q):WPo T O (⟨none,.alloc zero⟩ :: os) ls vs h Q:=by
 refine w_op (v:=.ptr h.n 0 0 zero.length) (h1:=h.alloc (.cells zero 0 0)) ?_ (k1 h.n _ ⟨by simp,0,by rw [Heap.get_alloc,if_pos rfl]⟩ (Nat.le_refl _) (ExtX.alloc _ _))
 rfl
theorem w_store {n:Nat} {a x:Opd} {id off hi:Nat} {v:V} {cs:List V} (ha:ev ls vs a=some (.ptr id off 0 hi)) (hx:ev ls vs x=some v) (ho:Own h id cs) (hl:v.cells.length=n) (h1:allOne v.cells=true) (hb:off+n≤hi) (hb2:off+n≤cs.length)
  (k1:∀ h',Own h' id (splice cs off v.cells)→ExtX [id] h h'→h'.n=h.n→WPo T O os (.any :: ls) vs h' Q):WPo T O (⟨none,.store n a x⟩ :: os) ls vs h Q:=by
 obtain ⟨g1,low,g2⟩:=ho
 refine w_op (v:=.any) (h1:=h.set id (.cells (splice cs off v.cells) 0 (minN low off))) ?_ (k1 _ ⟨g1,minN low off,by rw [Heap.get_set,if_pos rfl]⟩ (ExtX.set _ (by simp) _) rfl)
 show o_store n a x ls vs h=_
 simp only [o_store,ha,hx,wr,g2,h1,nbeq.2 hl,nble.2 hb,nble.2 hb2,show Nat.beq 0 0=true from rfl,Bool.and_self]
theorem over_app:∀ {xs a b:List V},xs.length≤a.length→over xs (a++b)=over xs a++b
 | [],_,_,_=>rfl
 | x :: xs,[],_,h=>by cases h
 | x :: xs,y :: a,b,h=>by simp only [List.cons_append,over];rw [over_app (by simpa using h)]
theorem splice_app_l:∀ {a b xs:List V} {k:Nat},k+xs.length≤a.length→splice (a++b) k xs=splice a k xs++b
 | a,b,xs,0,h=>by simp only [splice];exact over_app (by omega)
 | [],b,xs,k+1,h=>by simp at h
 | y :: a,b,xs,k+1,h=>by
  simp only [List.cons_append,splice]
  rw [splice_app_l (by simp only [List.length_cons] at h;omega)]
theorem splice_app_r:∀ {a b xs:List V} {k:Nat},splice (a++b) (a.length+k) xs=a++splice b k xs
 | [],b,xs,k=>by simp
 | y :: a,b,xs,k=>by
  rw [List.length_cons,show a.length+1+k=(a.length+k)+1 by omega,List.cons_append,splice,splice_app_r]
  rfl
theorem over_len:∀ {xs a:List V},xs.length≤a.length→(over xs a).length=a.length
 | [],_,_=>rfl
 | x :: xs,[],h=>by cases h
 | x :: xs,y :: a,h=>by simp only [over,List.length_cons];rw [over_len (by simpa using h)]
theorem splice_len':∀ {a xs:List V} {k:Nat},k+xs.length≤a.length→(splice a k xs).length=a.length
 | a,xs,0,h=>by simp only [splice];exact over_len (by omega)
 | [],xs,k+1,h=>by simp at h
 | y :: a,xs,k+1,h=>by
  simp only [splice,List.length_cons]
  rw [splice_len' (by simp only [List.length_cons] at h;omega)]
theorem Ow.set {h:Heap} {esz:Nat} {v:V} {l:List (List V)} (ho:Ow h esz v l) {j d n:Nat} {x:V} (hj:j<l.length) (hn:x.cells.length=n) (hd:d+n≤esz) (h1:allOne x.cells=true) :
  ∃ id off len ver full h',v=.sl id off len ver esz full∧len=l.length∧wr h n (.ptr id (off+j * esz+d) ver (off+len * esz)) x=some h'∧Ow h' esz v (l.set j (splice l[j] d x.cells))∧ExtX (slIds v) h h'∧h'.n=h.n:=by
 obtain ⟨⟨e1,e2,e3,e4⟩,hc⟩:=ho
 rcases hc with rfl | ⟨id,off,len,ver,full,cs,low,rfl,hg⟩
 ·simp only [srcCells,Option.some.injEq,Prod.mk.injEq] at e1
  omega
 ·simp only [srcCells,hg] at e1
  split at e1
  ·rename_i hgd
   simp only [Bool.and_eq_true,nbeq] at hgd
   simp only [Option.some.injEq,Prod.mk.injEq] at e1
   obtain ⟨rfl,e1⟩:=e1
   have hgl:=good_len hgd.1
   have hjm:j * esz+esz≤l.length * esz:=by
    have:=Nat.mul_le_mul_right esz (show j+1≤l.length by omega)
    rw [Nat.add_mul] at this;omega
   have hej:l[j].length=esz:=e4 _ (List.getElem_mem hj)
   -- the cells,in parts
   have hl:l=l.take j++l[j] :: l.drop (j+1):=by rw [← List.drop_eq_getElem_cons hj,List.take_append_drop]
   have hfl:l.flatten=(l.take j).flatten++(l[j]++(l.drop (j+1)).flatten):=by
    have h2:=congrArg List.flatten hl
    rw [List.flatten_append,List.flatten_cons] at h2
    exact h2
   have hF1:(l.take j).flatten.length=j * esz:=by
    rw [flatten_len (fun c hc=>e4 c (List.mem_of_mem_take hc)),List.length_take,Nat.min_eq_left (by omega)]
   have hcs:cs=cs.take off++((l.take j).flatten++(l[j]++((l.drop (j+1)).flatten++cs.drop (off+l.length * esz)))):=by
    have a1:cs=cs.take off++(((cs.drop off).take (l.length * esz))++(cs.drop off).drop (l.length * esz)):=by
     rw [List.take_append_drop,List.take_append_drop]
    rw [e1,hfl,List.drop_drop] at a1
    simpa only [List.append_assoc] using a1
   have hto:(cs.take off).length=off:=by simp;omega
   have hsp:splice cs (off+j * esz+d) x.cells=cs.take off++((l.take j).flatten++(splice l[j] d x.cells++((l.drop (j+1)).flatten++cs.drop (off+l.length * esz)))):=by
    conv=>lhs;rw [hcs]
    rw [show off+j * esz+d=(cs.take off).length+((l.take j).flatten.length+d) by rw [hto,hF1];omega,splice_app_r,splice_app_r,splice_app_l (by rw [hej,hn];exact hd)]
   have hll:(splice cs (off+j * esz+d) x.cells).length=cs.length:=splice_len' (by rw [hn];omega)
   have hall:∀ c∈l.set j (splice l[j] d x.cells),c.length=esz:=by
    intro c hc
    rcases List.mem_or_eq_of_mem_set hc with h | h
    ·exact e4 c h
    ·rw [h,splice_len' (by rw [hej,hn];exact hd),hej]
   have hset:(l.set j (splice l[j] d x.cells)).flatten=(l.take j).flatten++(splice l[j] d x.cells++(l.drop (j+1)).flatten):=by
    rw [List.set_eq_take_append_cons_drop,if_pos hj]
    simp
   refine ⟨id,off,_,ver,full,h.set id (.cells (splice cs (off+j * esz+d) x.cells) ver (minN low (off+j * esz+d))),rfl,rfl,?_,⟨⟨?_,rfl,?_,hall⟩,.inr ⟨id,off,_,ver,full,_,_,rfl,by rw [Heap.get_set,if_pos rfl]⟩⟩,ExtX.set _ (by simp [slIds]) _,rfl⟩
   ·have b1:Nat.ble (off+j * esz+d+n) (off+l.length * esz)=true:=nble.2 (by omega)
    have b2:Nat.ble (off+j * esz+d+n) cs.length=true:=nble.2 (by omega)
    simp only [wr,hg,nbeq.2 hn,b1,b2,h1,show Nat.beq ver ver=true from nbeq.2 rfl,Bool.and_self]
   ·simp only [srcCells,Heap.get_set,if_true,List.length_set]
    rw [good_refl (by rw [hll];omega),show Nat.beq esz esz=true from nbeq.2 rfl]
    simp only [Bool.and_self,Option.some.injEq,Prod.mk.injEq,true_and]
    have hassoc:cs.take off++((l.take j).flatten++(splice l[j] d x.cells++((l.drop (j+1)).flatten++cs.drop (off+l.length * esz))))=cs.take off++((l.set j (splice l[j] d x.cells)).flatten++cs.drop (off+l.length * esz)):=by rw [hset];simp
    have hlen2:(l.set j (splice l[j] d x.cells)).flatten.length=l.length * esz:=by rw [flatten_len hall,List.length_set]
    rw [hsp,hassoc,List.drop_left' hto,← hlen2,List.take_left]
   ·exact e3
  ·cases e1
mutual
theorem V.beq_refl:∀ v:V,V.beq v v=true
 | .any | .nilp | .nils | .nilm | .nilf | .nili=>rfl
 | .bool b=>by simp [V.beq]
 | .int k n=>by simp [V.beq]
 | .str s=>by simp only [V.beq];exact eqBytes_refl s
 | .ptr a b c d=>by simp only [V.beq,show ∀ n,Nat.beq n n=true from fun n=>nbeq.2 rfl,Bool.and_self]
 | .vptr v o=>by simp only [V.beq,V.beq_refl v,show ∀ n,Nat.beq n n=true from fun n=>nbeq.2 rfl,Bool.and_self]
 | .sl a b c d e f=>by simp only [V.beq,show ∀ n,Nat.beq n n=true from fun n=>nbeq.2 rfl,Bool.and_self,BEq.rfl]
 | .vec l=>by simp only [V.beq];exact V.beqL_refl l
 | .map i=>by simp only [V.beq];exact nbeq.2 rfl
 | .fn f a b=>by simp only [V.beq,V.beqL_refl a,V.beqL_refl b,show ∀ n,Nat.beq n n=true from fun n=>nbeq.2 rfl,Bool.and_self]
 | .iface t v=>by simp only [V.beq,V.beq_refl v,show ∀ n,Nat.beq n n=true from fun n=>nbeq.2 rfl,Bool.and_self]
 | .agg l=>by simp only [V.beq];exact V.beqL_refl l
 | .tuple l=>by simp only [V.beq];exact V.beqL_refl l
 | .sym i=>by simp only [V.beq];exact nbeq.2 rfl
theorem V.beqL_refl:∀ l:List V,V.beqL l l=true
 | []=>rfl
 | a :: l=>by simp only [V.beqL,V.beq_refl a,V.beqL_refl l,Bool.and_self]
theorem eqBytes_refl:∀ s:List UInt8,eqBytes s s=true
 | []=>rfl
 | a :: s=>by simp only [eqBytes,show Nat.beq a.toNat a.toNat=true from nbeq.2 rfl];exact eqBytes_refl s
end
theorem w_nilck {x:Opd} {p:V} {c:List V} (hx:ev ls vs x=some p) (k:At h p c) (k1:WPo T O os (p :: ls) vs h Q):WPo T O (⟨none,.nilck x⟩ :: os) ls vs h Q:=by
 refine w_op ?_ k1
 show o_nilck x ls vs h=_
 rcases k with ⟨v,o,rfl,_⟩ | ⟨id,o,ver,hi,cs,cur,low,rfl,_⟩ <;> simp only [o_nilck,hx]
theorem w_storeS {n esz d j:Nat} {a x:Opd} {v xv:V} {l:List (List V)} (ha:ev ls vs a=some (padd (slotP v j) d)) (hx:ev ls vs x=some xv) (ho:Ow h esz v l) (hj:j<l.length) (hn:xv.cells.length=n) (hd:d+n≤esz) (h1:allOne xv.cells=true)
  (k1:∀ h',Ow h' esz v (l.set j (splice l[j] d xv.cells))→ExtX (slIds v) h h'→h'.n=h.n→WPo T O os (.any :: ls) vs h' Q):WPo T O (⟨none,.store n a x⟩ :: os) ls vs h Q:=by
 obtain ⟨id,off,len,ver,full,h',rfl,rfl,e1,e2,e3,e4⟩:=ho.set (d:=d) hj hn hd h1
 refine w_op (v:=.any) (h1:=h') ?_ (k1 h' e2 e3 e4)
 show o_store n a x ls vs h=_
 simp only [o_store,ha,hx,slotP,padd]
 rw [e1]
def NewS (h:Heap) (v:V) (c:List V):Prop:=∃ id n e f low,v=.sl id 0 n 0 e f∧id<h.n∧h.get id=some (.cells c 0 low)
theorem NewS.ext {S:List Nat} {h h':Heap} {v:V} {c:List V} (hE:ExtX S h h') (k:NewS h v c) (hs:∀ j∈slIds v,j∉S):NewS h' v c:=by
 obtain ⟨id,n,e,f,low,rfl,h1,h2⟩:=k
 exact ⟨id,n,e,f,low,rfl,Nat.lt_of_lt_of_le h1 hE.1,hE.get h1 (hs id (by simp [slIds])) h2⟩
theorem w_new {n:Nat} {zero:List V} {x:Opd} {v:V} (hx:∀ p,ev (p :: ls) vs x=some v) (hl:v.cells.length=n) (hz:zero.length=n) (h1:allOne v.cells=true)
  (k1:∀ id h',Own h' id v.cells→h.n≤id→Ext h h'→WPo T O os (.any :: .ptr id 0 0 n :: ls) vs h' Q):WPo T O (⟨none,.alloc zero⟩ :: ⟨none,.store n (.loc 0) x⟩ :: os) ls vs h Q:=by
 subst hz
 refine w_alloc fun id h2 ho hn hE=>?_
 refine w_store rfl (hx _) ho hl h1 (by omega) (by omega) fun h3 ho3 hE3 _=>?_
 refine k1 id h3 ?_ hn (hE.step hE3 fun j hj=>by simp at hj;exact .inr (by omega))
 rwa [show splice zero 0 v.cells=v.cells from by rw [splice];exact over_all hl] at ho3
end rules
end Am
namespace Am
open Go
variable {Hd:Type}
def TyVs (R:TypeId→List V→Prop):List TypeId→List V→Prop
 | [],cs=>cs=[]
 | t :: ts,cs=>∃ a b,cs=a++b∧R t a∧TyVs R ts b
def TyV (P:Program):Nat→TypeId→List V→Prop
 | 0,_,_=>False
 | n+1,t,cs=>match P.underlying t with
  | some .bool=>∃ b,cs=[.bool b]
  | some (.int k)=>∃ i,cs=[.int k i]∧(Lit.int k i).wf=true
  | some .string=>∃ s,cs=[.str s]
  | some (.slice e)=>cs=[.nils]∨∃ es:List (List V),cs=[.vec (es.map .agg)]∧∀ c∈es,TyV P n e c
  | some (.struct fs)=>TyVs (TyV P n) (fs.toList.map (·.type)) cs
  | some (.array m e)=>TyVs (TyV P n) (List.replicate m e) cs
  | _=>False
theorem elemsD_map:∀ (ds:List (DataW Hd)),elemsD ds=(ds.map cellsD).map .agg
 | []=>rfl
 | d :: l=>by simp [elemsD,elemsD_map l]
theorem tyVs_of {R:TypeId→List V→Prop} : ∀ (ts:List TypeId) (xs:List (DataW Hd×List MemPlace)),xs.length=ts.length→(∀ (i:Nat) (t:TypeId),ts[i]? = some t→∃ y,xs[i]? = some y∧R t (cellsD y.1))→TyVs R ts (cellsDL (xs.map (·.1)))
 | [],[],_,_=>rfl
 | [],_ :: _,h,_=>by cases h
 | _ :: _,[],h,_=>by cases h
 | t :: ts,x :: xs,h,k=>by
  refine ⟨cellsD x.1,cellsDL (xs.map (·.1)),by simp [cellsDL],?_,tyVs_of ts xs (by simpa using h) fun i t' ht=>?_⟩
  ·obtain ⟨y,hy,hr⟩:=k 0 t rfl
   simp at hy;subst hy;exact hr
  ·obtain ⟨y,hy,hr⟩:=k (i+1) t' (by simpa using ht)
   exact ⟨y,by simpa using hy,hr⟩
theorem ty_of_trod {enc:TypeId×Value→Hd} {P:Program} {W:World} {ts:List TypeId} {base:Nat} {spare:Nat→Bool} {held:Bool} (hp:plainB P ts=true) :
  ∀ (fuel:Nat) (t:TypeId) (cs:List Value) (x:DataW Hd×List MemPlace),t∈ts→DataW.trod enc P W base spare held fuel t cs=some x→TyV P fuel t (cellsD x.1)
 | 0,t,cs,x,ht,h=>by simp [DataW.trod] at h
 | fuel+1,t,cs,x,ht,h=>by
  have hpt:=List.all_eq_true.1 hp t ht
  unfold plainT at hpt
  unfold TyV
  split at hpt
  ·rename_i hu
   obtain ⟨b,rfl,rfl⟩:=DataW.trod_bool hu h
   try simp only [hu]
   exact ⟨b,rfl⟩
  ·rename_i hu
   obtain ⟨n,rfl,rfl,hw⟩:=DataW.trod_int hu h
   try simp only [hu]
   exact ⟨n,rfl,hw⟩
  ·rename_i hu
   obtain ⟨s,rfl,rfl,_⟩:=DataW.trod_string hu h
   try simp only [hu]
   exact ⟨_,rfl⟩
  ·rename_i e hu
   simp only [Bool.and_eq_true,List.contains_iff_mem] at hpt
   obtain ⟨⟨h1,he⟩,hce⟩:=hpt
   try simp only [hu]
   rcases DataW.trod_slice hu h with ⟨rfl,rfl⟩ | ⟨a,len,cap,elems,rest,n,hn,rfl,rfl,hb,hlc,_,hel,hget,_⟩
   ·exact .inl rfl
   ·cases hn
    refine .inr ⟨(elems.map (·.1)).map cellsD,by simp only [cellsD,elemsD_map],fun c hc=>?_⟩
    simp only [List.mem_map] at hc
    obtain ⟨d,⟨y,hy,rfl⟩,rfl⟩:=hc
    obtain ⟨i,hi,e1⟩:=List.mem_iff_getElem.1 hy
    have:=hget i (by omega)
    rw [List.getElem?_eq_getElem hi,e1] at this
    obtain ⟨cs',hc1,hc2⟩:=Option.bind_eq_some_iff.1 this
    exact ty_of_trod hp fuel e cs' y he hc2
  ·rename_i fs hu
   simp only [Bool.and_eq_true,List.all_eq_true,List.contains_iff_mem] at hpt
   obtain ⟨hts,hcon⟩:=hpt
   try simp only [hu]
   obtain ⟨xs,n,hn,rfl,hl,hxl,hget⟩:=DataW.trod_struct hu h
   cases hn
   simp only [cellsD]
   refine tyVs_of _ xs (by simp [hxl]) fun i t' ht'=>?_
   simp only [List.getElem?_map,Option.map_eq_some_iff] at ht'
   obtain ⟨f,hf,rfl⟩:=ht'
   have hf':fs[i]? = some f:=by simpa using hf
   have hg:=hget i f hf'
   obtain ⟨y,hy⟩:∃ y,xs[i]? = some y:=by
    have:i<fs.size:=(Array.getElem?_eq_some_iff.1 hf').1
    exact ⟨xs[i]'(by omega),by simp [hxl,this]⟩
   rw [hy] at hg
   exact ⟨y,hy,ty_of_trod hp fuel f.type _ y (hts f (List.mem_of_getElem? hf)) hg⟩
  ·rename_i m e hu
   simp only [Bool.and_eq_true,List.contains_iff_mem] at hpt
   obtain ⟨he,hcon⟩:=hpt
   try simp only [hu]
   obtain ⟨xs,n,hn,rfl,hl,hxl,hget⟩:=trod_array_get hu h
   cases hn
   simp only [cellsD]
   refine tyVs_of _ xs (by simp [hxl]) fun i t' ht'=>?_
   obtain ⟨hi,rfl⟩:i<m∧e=t':=by
    rw [List.getElem?_replicate] at ht'
    split at ht'
    ·rename_i hlt;exact ⟨hlt,by simpa using ht'⟩
    ·cases ht'
   have hg:=hget i hi
   obtain ⟨y,hy⟩:∃ y,xs[i]? = some y:=⟨xs[i]'(by omega),by simp [hxl,hi]⟩
   rw [hy] at hg
   exact ⟨y,hy,ty_of_trod hp fuel e _ y he hg⟩
  ·cases hpt
mutual
def bulkV:V→Nat
 | .agg cs=>bulkL cs
 | .vec es=>bulkL es+1
 | .str s=>s.length+1
 | _=>1
def bulkL:List V→Nat
 | []=>0
 | v :: l=>bulkV v+bulkL l
end
theorem bulkL_append:∀ (a b:List V),bulkL (a++b)=bulkL a+bulkL b
 | [],b=>by simp [bulkL]
 | x :: a,b=>by simp [bulkL,bulkL_append a b];omega
theorem bulk_one {v:V} (h:v.one=true):1≤bulkV v:=by
 cases v <;> first
  | exact Nat.le_refl _
  | exact Nat.le_add_left _ _
  | cases h
theorem bulk_len:∀ {c:List V},allOne c=true→c.length≤bulkL c
 | [],_=>Nat.le_refl _
 | v :: c,h=>by
  have h1:=bulk_one (allOne_iff.1 h v (by simp))
  have h2:=bulk_len (c:=c) (allOne_iff.2 fun x hx=>allOne_iff.1 h x (by simp [hx]))
  simp only [bulkL,List.length_cons];omega
theorem bulk_mem:∀ {es:List (List V)} {c:List V},c∈es→bulkL c≤bulkL (es.map .agg)
 | e :: es,c,h=>by
  simp only [List.map_cons,bulkL,bulkV]
  rcases List.mem_cons.1 h with rfl | h
  ·omega
  ·have:=bulk_mem h;omega
theorem bulk_count:∀ {es:List (List V)},(∀ c∈es,allOne c=true∧1≤c.length)→es.length≤bulkL (es.map .agg)
 | [],_=>Nat.le_refl _
 | e :: es,h=>by
  have h1:=h e (by simp)
  have h2:=bulk_count (es:=es) fun c hc=>h c (by simp [hc])
  have h3:=bulk_len h1.1
  simp only [List.map_cons,bulkL,bulkV,List.length_cons];omega
theorem tyVs_one {R:TypeId→List V→Prop} (hR:∀ t cs,R t cs→allOne cs=true):∀ (ts:List TypeId) (cs:List V),TyVs R ts cs→allOne cs=true
 | [],_,h=>by
  simp only [TyVs] at h
  subst h
  rfl
 | t :: ts,cs,h=>by
  obtain ⟨a,b,rfl,h1,h2⟩:=h
  exact allOne_append (hR t a h1) (tyVs_one hR ts b h2)
theorem ty_one {P:Program} : ∀ (n:Nat) (t:TypeId) (cs:List V),TyV P n t cs→allOne cs=true
 | 0,_,_,h=>h.elim
 | n+1,t,cs,h=>by
  unfold TyV at h
  split at h
  ·obtain ⟨b,rfl⟩:=h;rfl
  ·obtain ⟨b,rfl,_⟩:=h;rfl
  ·obtain ⟨b,rfl⟩:=h;rfl
  ·rcases h with rfl | ⟨es,rfl,_⟩ <;> rfl
  ·exact tyVs_one (ty_one n) _ _ h
  ·exact tyVs_one (ty_one n) _ _ h
  ·exact h.elim
section open_types
variable {P:Program} {n:Nat} {t:TypeId} {cs:List V}
theorem ty_int {k:IntKind} (hu:P.underlying t=some (.int k)) (h:TyV P n t cs):∃ i,cs=[.int k i]∧(Lit.int k i).wf=true:=by
 cases n with
 | zero=>exact h.elim
 | succ n=>simpa only [TyV,hu] using h
theorem ty_str (hu:P.underlying t=some .string) (h:TyV P n t cs):∃ s,cs=[.str s]:=by
 cases n with
 | zero=>exact h.elim
 | succ n=>simpa only [TyV,hu] using h
theorem ty_slice {e:TypeId} (hu:P.underlying t=some (.slice e)) (h:TyV P n t cs) :
  ∃ v es m,cs=[v]∧(∀ (H:Nat→List V→Prop),True)∧n=m+1∧(∀ c∈es,TyV P m e c)∧bulkL (es.map .agg)≤bulkL cs∧(v=.nils∧es=[]∨v=.vec (es.map .agg)):=by
 cases n with
 | zero=>exact h.elim
 | succ n=>
  simp only [TyV,hu] at h
  rcases h with rfl | ⟨es,rfl,h⟩
  ·exact ⟨_,[],n,rfl,fun _=>trivial,rfl,by simp,by simp [bulkL],.inl ⟨rfl,rfl⟩⟩
  ·exact ⟨_,es,n,rfl,fun _=>trivial,rfl,h,by simp only [bulkL,bulkV];omega,.inr rfl⟩
theorem ty_struct {fs:Array Field} {ts:List TypeId} (hu:P.underlying t=some (.struct fs)) (ht:fs.toList.map (·.type)=ts) (h:TyV P n t cs):∃ m,n=m+1∧TyVs (TyV P m) ts cs:=by
 cases n with
 | zero=>exact h.elim
 | succ n=>
  simp only [TyV,hu] at h
  exact ⟨n,rfl,ht▸h⟩
theorem ty_arr {m:Nat} {e:TypeId} (hu:P.underlying t=some (.array m e)) (h:TyV P n t cs):∃ k,n=k+1∧TyVs (TyV P k) (List.replicate m e) cs:=by
 cases n with
 | zero=>exact h.elim
 | succ n=>
  simp only [TyV,hu] at h
  exact ⟨n,rfl,h⟩
end open_types
end Am
namespace Am
open Go
variable {Hd:Type} {enc:TypeId×Value→Hd} {P:Program} {W:World} {tk:Nat→Option Value} {ts:List TypeId} {base:Nat} {spare:Nat→Bool} {held:Bool} {t:TypeId} {d:DataW Hd} {p:List MemPlace}
theorem arg_agg (hp:plainB P ts=true) (ht:t∈ts) {arr:Array Value} (h:∃ fuel,DataW.trod enc P W base spare held fuel t (Value.agg arr).cells.toList=some (d,p)) :
  (∃ n,TyV P n t (cellsD d))∧VR (E0 W tk) (.agg (cellsD d)) (.agg arr):=by
 obtain ⟨fuel,h⟩:=h
 have h:DataW.trod enc P W base spare held fuel t arr.toList=some (d,p):=h
 obtain ⟨h1,h2,h3⟩:=open_ok (tk:=tk) hp fuel t arr.toList (d,p) ht h
 refine ⟨⟨fuel,ty_of_trod hp fuel t arr.toList (d,p) ht h⟩,.agg ?_ fun i c x hc hx=>h3 i c x hc (by simpa using hx)⟩
 simp only at h1
 rw [h1,← h2]
 simp
end Am
namespace Am
open Go
theorem w_rf {T:Nat→Option AFunc} {O:CallF} {vs ls:List V} {h:Heap} {Q:List V→Heap→Prop} {os:List AOp} {d hi id:Nat} {x:Opd} {cs:List V} {v:V} (hx:ev ls vs x=some (.ptr id 0 0 hi)) (ho:Own h id cs) (hv:nth cs d=some v) (hd:Nat.blt d hi=true) (hl:cs.length=hi)
  (k1:WPo T O os (v :: .ptr id (0+d) 0 hi :: ls) vs h Q):WPo T O (⟨none,.fadr d x⟩ :: ⟨none,.load false 1 (.loc 0)⟩ :: os) ls vs h Q:=by
 have hd:=nblt.1 hd
 refine w_op (v:=.ptr id (0+d) 0 hi) (h1:=h) ?_ ?_
 ·show o_fadr d x ls vs h=_
  simp only [o_fadr,hx]
 ·have hA:=(ho.at hl).fadr (d:=d) (by omega)
  have hc:cs.drop d=v :: cs.drop (d+1):=by
   rw [nth_eq] at hv
   obtain ⟨h1,h2⟩:=List.getElem?_eq_some_iff.1 hv
   rw [List.drop_eq_getElem_cons h1,h2]
  rw [hc] at hA
  exact w_load1 (p:=.ptr id (0+d) 0 hi) rfl hA rfl k1
theorem w_rfg {T:Nat→Option AFunc} {O:CallF} {vs ls:List V} {h:Heap} {Q:List V→Heap→Prop} {os:List AOp} {d hi id:Nat} {x:Opd} {cs:List V} {v:V} {g1 g2:Nat×Bool} (h1:wantedV ls (some g1)=some true) (hx:ev ls vs x=some (.ptr id 0 0 hi)) (ho:Own h id cs) (hv:nth cs d=some v) (hd:Nat.blt d hi=true) (hl:cs.length=hi)
  (h2:wantedV (.ptr id (0+d) 0 hi :: ls) (some g2)=some true) (k1:WPo T O os (v :: .ptr id (0+d) 0 hi :: ls) vs h Q):WPo T O (⟨some g1,.fadr d x⟩ :: ⟨some g2,.load false 1 (.loc 0)⟩ :: os) ls vs h Q:=by
 have hd:=nblt.1 hd
 refine w_on h1 (w_op (v:=.ptr id (0+d) 0 hi) (h1:=h) ?_ (w_on h2 ?_))
 ·show o_fadr d x ls vs h=_
  simp only [o_fadr,hx]
 ·have hA:=(ho.at hl).fadr (d:=d) (by omega)
  have hc:cs.drop d=v :: cs.drop (d+1):=by
   rw [nth_eq] at hv
   obtain ⟨h1,h2⟩:=List.getElem?_eq_some_iff.1 hv
   rw [List.drop_eq_getElem_cons h1,h2]
  rw [hc] at hA
  exact w_load1 (p:=.ptr id (0+d) 0 hi) rfl hA rfl k1
section nat
variable {T:Nat→Option AFunc} {O:CallF} {vs ls:List V} {h:Heap} {Q:List V→Heap→Prop} {os:List AOp} {q:EqK} {x y:Opd} {k:IntKind} {a b:Nat}
theorem w_lssN (hx:ev ls vs x=some (.int k (.ofNat a))) (hy:ev ls vs y=some (.int k (.ofNat b))) (k1:a<b→WPo T O os (.bool true :: ls) vs h Q) (k2:b≤a→WPo T O os (.bool false :: ls) vs h Q):WPo T O (⟨none,.bin .lss q x y⟩ :: os) ls vs h Q:=
 w_lss hx hy (fun e=>k1 (Int.ofNat_lt.1 e)) (fun e=>k2 (Int.ofNat_le.1 e))
theorem w_leqN (hx:ev ls vs x=some (.int k (.ofNat a))) (hy:ev ls vs y=some (.int k (.ofNat b))) (k1:a≤b→WPo T O os (.bool true :: ls) vs h Q) (k2:b<a→WPo T O os (.bool false :: ls) vs h Q):WPo T O (⟨none,.bin .leq q x y⟩ :: os) ls vs h Q:=
 w_leq hx hy (fun e=>k1 (Int.ofNat_le.1 e)) (fun e=>k2 (Int.ofNat_lt.1 e))
theorem w_gtrN (hx:ev ls vs x=some (.int k (.ofNat a))) (hy:ev ls vs y=some (.int k (.ofNat b))) (k1:b<a→WPo T O os (.bool true :: ls) vs h Q) (k2:a≤b→WPo T O os (.bool false :: ls) vs h Q):WPo T O (⟨none,.bin .gtr q x y⟩ :: os) ls vs h Q:=
 w_gtr hx hy (fun e=>k1 (Int.ofNat_lt.1 e)) (fun e=>k2 (Int.ofNat_le.1 e))
theorem w_geqN (hx:ev ls vs x=some (.int k (.ofNat a))) (hy:ev ls vs y=some (.int k (.ofNat b))) (k1:b≤a→WPo T O os (.bool true :: ls) vs h Q) (k2:a<b→WPo T O os (.bool false :: ls) vs h Q):WPo T O (⟨none,.bin .geq q x y⟩ :: os) ls vs h Q:=
 w_geq hx hy (fun e=>k1 (Int.ofNat_le.1 e)) (fun e=>k2 (Int.ofNat_lt.1 e))
theorem w_eqlN (hx:ev ls vs x=some (.int k (.ofNat a))) (hy:ev ls vs y=some (.int k (.ofNat b))) (k1:a=b→WPo T O os (.bool true :: ls) vs h Q) (k2:a≠b→WPo T O os (.bool false :: ls) vs h Q):WPo T O (⟨none,.bin .eql q x y⟩ :: os) ls vs h Q:=
 w_eql hx hy (fun e=>k1 (Int.ofNat.inj e)) (fun e=>k2 fun e'=>e (by rw [e']))
theorem w_neqN (hx:ev ls vs x=some (.int k (.ofNat a))) (hy:ev ls vs y=some (.int k (.ofNat b))) (k1:a≠b→WPo T O os (.bool true :: ls) vs h Q) (k2:a=b→WPo T O os (.bool false :: ls) vs h Q):WPo T O (⟨none,.bin .neq q x y⟩ :: os) ls vs h Q:=
 w_neq hx hy (fun e=>k1 fun e'=>e (by rw [e'])) (fun e=>k2 (Int.ofNat.inj e))
theorem wrap_i64_nat {n:Nat} (h:n<9223372036854775808):IntKind.i64.wrap (Int.ofNat n)=Int.ofNat n:=by
 have:Int.ofNat n=(n:Int):=rfl
 simp only [IntKind.wrap,IntKind.signed,IntKind.bits,Bool.true_and,ge_iff_le,decide_eq_true_eq]
 split <;> omega
theorem w_addN (hx:ev ls vs x=some (.int .i64 (.ofNat a))) (hy:ev ls vs y=some (.int .i64 (.ofNat b))) (hb:a+b<9223372036854775808) (k1:WPo T O os (.int .i64 (.ofNat (a+b)) :: ls) vs h Q):WPo T O (⟨none,.bin .add q x y⟩ :: os) ls vs h Q:=
 w_add hx hy (wrap_i64_nat hb) k1
end nat
theorem w_end {T:Nat→Option AFunc} {O:CallF} {vs ls vs':List V} {h:Heap} {N:Pred2} {outs:List (Nat×Nat)} (hv:outsV ls outs vs=some vs') (k:N vs' h):WPo T O [] ls vs h (fun ls h'=>∃ vs'',outsV ls outs vs=some vs''∧N vs'' h'):=
 w_nil ⟨vs',hv,k⟩
theorem w_e {T:Nat→Option AFunc} {O:CallF} {vs ls vs':List V} {h:Heap} {N:Pred2} {outs:List (Nat×Nat)} (k:N vs' h) (hv:outsV ls outs vs=some vs':=by simp only [outsV,nth,setV,List.take_succ_cons,List.take_zero,List.length_cons,List.length_nil,Nat.zero_add,Nat.reduceAdd] <;> rfl):WPo T O [] ls vs h (fun ls h'=>∃ vs'',outsV ls outs vs=some vs''∧N vs'' h'):=
 w_end hv k
theorem w_fn' {T:Nat→Option AFunc} {O:CallF} {h:Heap} {f:Nat} {a:AFunc} {args vs0:List V} {Q:V→Heap→Prop} (hO:O f args h=none) (hT:T f=some a) (hl:Nat.beq args.length a.nparams=true) (hv:initV a.slots args=vs0) (k:WPx T O a.code vs0 h (Rt a.res Q) [] (Rt a.res Q)):WPc T O f args h Q:=by
 subst hv
 exact w_fn hO hT hl k
theorem w_rt {vs l:List V} {h:Heap} {rs:List ARes} {Q:V→Heap→Prop} (e:resV vs h rs=some l) (q:Q (packV l) h):Rt rs Q vs h:=⟨l,e,q⟩
theorem w_chk1 {T:Nat→Option AFunc} {O:CallF} {vs ls:List V} {h:Heap} {Q:List V→Heap→Prop} {os:List AOp} {i:Nat} {a:Opd} {p x:V} {c:List V} (hi:nth ls i=some x) (ha:ev ls vs a=some p) (k:At h p (x :: c)) (hb:V.beq x x=true) (k1:WPo T O os (.any :: ls) vs h Q) :
  WPo T O (⟨none,.chk i false 1 a⟩ :: os) ls vs h Q:=by
 refine w_op ?_ k1
 show o_chk i false 1 a ls vs h=_
 simp only [o_chk,ha,hi,k.one,hb]
theorem w_rem {T:Nat→Option AFunc} {O:CallF} {vs ls:List V} {h:Heap} {Q:List V→Heap→Prop} {os:List AOp} {q:EqK} {x y:Opd} {k:IntKind} {a b:Int} (hx:ev ls vs x=some (.int k a)) (hy:ev ls vs y=some (.int k b)) (hb:b≠0) (k1:WPo T O os (.int k (a.tmod b) :: ls) vs h Q):WPo T O (⟨none,.bin .rem q x y⟩ :: os) ls vs h Q:=
 w_op (o_bin_v hx hy (by simp only [binV,if_true,intBin,if_neg hb])) k1
theorem w_build {T:Nat→Option AFunc} {O:CallF} {vs ls:List V} {h:Heap} {Q:List V→Heap→Prop} {os:List AOp} {zero:List V} {parts:List (Nat×Nat×Opd)} {ps:List (Nat×Nat×V)} (cs:List V) (hp:evp ls vs parts=some ps) (hf:fillP zero ps=some cs) (k1:WPo T O os (.agg cs :: ls) vs h Q):WPo T O (⟨none,.build zero parts⟩ :: os) ls vs h Q:=by
 refine w_op (v:=.agg cs) (h1:=h) ?_ k1
 show o_build zero parts ls vs h=_
 simp only [o_build,hp,hf]
theorem tmod_bound (n:Int) {L:Nat} (hL:0<L) : -(L:Int)<n.tmod (Int.ofNat L)∧n.tmod (Int.ofNat L)<L:=by
 have e:Int.ofNat L=(L:Int):=rfl
 rw [e]
 exact ⟨Int.lt_tmod_of_pos n (by omega),Int.tmod_lt_of_pos n (by omega)⟩
theorem w_count {T:Nat→Option AFunc} {O:CallF} {vs:List V} {h:Heap} {id:Nat} {b:AC} {N R:Pred2} {E:List (Nat×Pred2)} (I:Nat→Pred2) (n:Nat) (h0:I 0 vs h)
  (hs:∀ j vs h,j≤n→I j vs h→WPx T O b vs h (fun vs h=>j<n∧I (j+1) vs h) ((id,N) :: E) R):WPx T O (.block id (.loop b)) vs h N E R:=by
 refine w_block (w_loop (fun m vs h=>∃ j,j≤n∧m=n - j∧I j vs h) ?_ n vs h ⟨0,Nat.zero_le _,rfl,h0⟩)
 rintro m vs h ⟨j,hj,rfl,hI⟩
 exact (hs j vs h hj hI).mono (fun vs h ⟨h1,h2⟩=>⟨n - (j+1),by omega,j+1,by omega,rfl,h2⟩) fun _ _ x=>x
theorem wrap_i64_of {a:Int} (h : -9223372036854775808≤a) (h2:a≤9223372036854775807):IntKind.i64.wrap a=a:=by
 simp only [IntKind.wrap,IntKind.signed,IntKind.bits,Bool.true_and,ge_iff_le,decide_eq_true_eq]
 split <;> omega
def InsC (c:List V):Prop:=∃ o a b,c=[.int .u8 o,.int .i64 a,.int .i64 b]
def FnC (h:Heap) (c:List V):Prop:=∃ nm p vs cs code,c=[.str nm,.int .i64 p,.int .i64 vs,cs]∧RS h 3 cs code∧(∀ i∈code,InsC i)∧code.length≤2097152
def OnC (c:List V):Prop:=∃ t p f,c=[.str t,.int .i64 p,.int .i64 f]
def PartC (h:Heap) (c:List V):Prop:=∃ nm p os l,c=[.str nm,.int .i64 p,os]∧RS h 3 os l∧(∀ o∈l,OnC o)∧l.length≤2097152
def ModC (h:Heap) (c:List V):Prop:=∃ cs ts fs rs lc lt lf lr,c=[cs,ts,fs,rs]∧RS h 4 cs lc∧RS h 1 ts lt∧RS h 4 fs lf∧RS h 3 rs lr∧(∀ f∈lf,FnC h f)∧(∀ r∈lr,PartC h r)∧
 lf.length≤2097152∧lr.length≤2097152
theorem FnC.ext {h h':Heap} (hE:Ext h h') {c:List V} (k:FnC h c):FnC h' c:=by
 obtain ⟨nm,p,vs,cs,code,e,hr,hc⟩:=k
 exact ⟨nm,p,vs,cs,code,e,hr.ext0 hE,hc⟩
theorem PartC.ext {h h':Heap} (hE:Ext h h') {c:List V} (k:PartC h c):PartC h' c:=by
 obtain ⟨nm,p,os,l,e,hr,hc⟩:=k
 exact ⟨nm,p,os,l,e,hr.ext0 hE,hc⟩
theorem ModC.ext {h h':Heap} (hE:Ext h h') {c:List V} (k:ModC h c):ModC h' c:=by
 obtain ⟨cs,ts,fs,rs,lc,lt,lf,lr,e,h1,h2,h3,h4,h5,h6,h7⟩:=k
 exact ⟨cs,ts,fs,rs,lc,lt,lf,lr,e,h1.ext0 hE,h2.ext0 hE,h3.ext0 hE,h4.ext0 hE,fun f hf=>(h5 f hf).ext hE,fun r hr=>(h6 r hr).ext hE,h7⟩
theorem isSl_one {v:V} (h:isSl v=true):v.one=true:=by cases v <;> first | rfl | cases h
theorem RS.one {h:Heap} {esz:Nat} {v:V} {l:List (List V)} (k:RS h esz v l):v.one=true:=isSl_one k.2.1
theorem InsC.one {c:List V} (k:InsC c):c.length=3∧allOne c=true:=by
 obtain ⟨o,a,b,rfl⟩:=k
 exact ⟨rfl,rfl⟩
theorem FnC.one {h:Heap} {c:List V} (k:FnC h c):c.length=4∧allOne c=true:=by
 obtain ⟨nm,p,vs,cs,code,rfl,h1,_⟩:=k
 exact ⟨rfl,by have:=h1.one;simp only [allOne,this];rfl⟩
theorem PartC.one {h:Heap} {c:List V} (k:PartC h c):c.length=3∧allOne c=true:=by
 obtain ⟨nm,p,os,l,rfl,h1,_⟩:=k
 exact ⟨rfl,by have:=h1.one;simp only [allOne,this];rfl⟩
theorem ModC.one {h:Heap} {c:List V} (k:ModC h c):c.length=4∧allOne c=true:=by
 obtain ⟨cs,ts,fs,rs,lc,lt,lf,lr,rfl,h1,h2,h3,h4,_⟩:=k
 exact ⟨rfl,by simp only [allOne,h1.one,h2.one,h3.one,h4.one]⟩
end Am
namespace Am
open Go
variable {T:Nat→Option AFunc} {O:CallF} {vs ls:List V} {h:Heap} {Q:List V→Heap→Prop} {os:List AOp}
theorem w_callA {f:Nat} {args:List Opd} (argv:List V) (e:evs ls vs args=some argv) (k1:WPc T O f argv h (fun v h1=>WPo T O os (v :: ls) vs h1 Q)):WPo T O (⟨none,.call f args⟩ :: os) ls vs h Q:=w_call e k1
end Am
namespace Am
open Go
structure WPt (os:List AOp) (ls vs:List V) (h:Heap) (Q:List V→Heap→List Nat→Prop):Prop where
 out:∃ ls' h' t,runOpsT os ls vs h=some (ls',h',t)∧Q ls' h' t
structure WPxt (a:AC) (vs:List V) (h:Heap) (Q:List V→Heap→List Nat→Prop):Prop where
 out:∃ vs' h' t,xT a vs h=some (vs',h',t)∧Q vs' h' t
section rules
variable {T:Nat→Option AFunc} {O:CallF} {vs ls:List V} {h:Heap} {Q:List V→Heap→List Nat→Prop} {os:List AOp} {N R:Pred2} {E:List (Nat×Pred2)}
end rules
end Am
namespace Am
open Go
theorem wrap_i64_eq (x:Int):IntKind.i64.wrap x=if x % 18446744073709551616 ≥ 9223372036854775808 then x % 18446744073709551616 - 18446744073709551616 else x % 18446744073709551616:=by
 simp only [IntKind.wrap,IntKind.signed,IntKind.bits,Bool.true_and,ge_iff_le,decide_eq_true_eq]
 rfl
section rules
variable {T:Nat→Option AFunc} {O:CallF} {vs ls:List V} {h:Heap} {Q:List V→Heap→Prop} {os:List AOp} {q:EqK} {x y:Opd} {a b:Int}
end rules
theorem w_fl {T:Nat→Option AFunc} {O:CallF} {vs ls:List V} {h:Heap} {Q:List V→Heap→Prop} {os:List AOp} {d hi id:Nat} {x:Opd} {cs:List V} {v:V} (hx:ev ls vs x=some (.ptr id d 0 hi)) (ho:Own h id cs) (hv:nth cs d=some v) (hd:Nat.blt d hi=true) (hl:cs.length=hi)
  (k1:WPo T O os (v :: ls) vs h Q):WPo T O (⟨none,.load false 1 x⟩ :: os) ls vs h Q:=by
 have hd:=nblt.1 hd
 have hA:=(ho.at hl).fadr (d:=d) (by omega)
 have hc:cs.drop d=v :: cs.drop (d+1):=by
  rw [nth_eq] at hv
  obtain ⟨h1,h2⟩:=List.getElem?_eq_some_iff.1 hv
  rw [List.drop_eq_getElem_cons h1,h2]
 rw [hc] at hA
 have e:V.ptr id d 0 hi=padd (.ptr id 0 0 hi) d:=by simp only [padd,Nat.zero_add]
 exact w_load1 (p:=padd (.ptr id 0 0 hi) d) (by rw [hx,e]) hA rfl k1
end Am
namespace Am
def encU:Nat→Nat→List Nat
 | 0,n=>[n]
 | k+1,n=>if n<128 then [n] else (n % 128+128) :: encU k (n / 128)
def dU:Nat→Bool→List Nat→Option (Nat×List Nat)
 | 0,_,[]=>none
 | _+1,_,[]=>none
 | 0,fst,x :: r=>if 1<x∨(x=0∧fst=false) then none else some (x,r)
 | k+1,fst,x :: r=>if x=0∧fst=false then none else if x<128 then some (x,r) else
  match dU k false r with
  | some (m,r')=>some (x - 128+128 * m,r')
  | none=>none
theorem dU_nil (k:Nat) (f:Bool):dU k f []=none:=by cases k <;> rfl
theorem dU_enc:∀ (k n:Nat) (f:Bool) (r:List Nat),n<128 ^ k * 2→(f=true∨n≠0)→dU k f (encU k n++r)=some (n,r)
 | 0,n,f,r,h,hf=>by
  simp only [encU,List.cons_append,List.nil_append,dU]
  rw [if_neg]
  rintro (h1 | ⟨h1,h2⟩)
  ·simp at h;omega
  ·rcases hf with hf | hf
   ·rw [hf] at h2;cases h2
   ·exact hf h1
 | k+1,n,f,r,h,hf=>by
  unfold encU
  by_cases hn:n<128
  ·rw [if_pos hn]
   simp only [List.cons_append,List.nil_append,dU]
   rw [if_neg,if_pos hn]
   rintro ⟨h1,h2⟩
   rcases hf with hf | hf
   ·rw [hf] at h2;cases h2
   ·exact hf h1
  ·rw [if_neg hn]
   simp only [List.cons_append,dU]
   have hk:n / 128<128 ^ k * 2:=by
    rw [Nat.pow_succ] at h
    omega
   rw [if_neg (by omega),if_neg (by omega),dU_enc k (n / 128) false r hk (.inr (by omega))]
   simp only [Option.some.injEq,Prod.mk.injEq,and_true]
   omega
theorem dU_dec:∀ (k:Nat) (f:Bool) (l:List Nat) (n:Nat) (r:List Nat),(∀ x∈l,x<256)→dU k f l=some (n,r)→l=encU k n++r∧n<128 ^ k * 2∧(f=false→n≠0)
 | k,f,[],n,r,_,h=>by rw [dU_nil] at h;cases h
 | 0,f,x :: l,n,r,hb,h=>by
  simp only [dU] at h
  split at h
  ·cases h
  ·rename_i hc
   simp only [Option.some.injEq,Prod.mk.injEq] at h
   obtain ⟨rfl,rfl⟩:=h
   exact ⟨rfl,by simp;omega,fun hf e=>hc (.inr ⟨e,hf⟩)⟩
 | k+1,f,x :: l,n,r,hb,h=>by
  simp only [dU] at h
  split at h
  ·cases h
  ·rename_i hc
   split at h
   ·rename_i hx
    simp only [Option.some.injEq,Prod.mk.injEq] at h
    obtain ⟨rfl,rfl⟩:=h
    have hp:0<128 ^ k:=Nat.pow_pos (by decide)
    exact ⟨by simp [encU,hx],by rw [Nat.pow_succ];omega,fun hf e=>hc ⟨e,hf⟩⟩
   ·rename_i hx
    split at h
    ·rename_i m r' hd
     simp only [Option.some.injEq,Prod.mk.injEq] at h
     obtain ⟨rfl,rfl⟩:=h
     obtain ⟨h1,h2,h3⟩:=dU_dec k false l m r' (fun y hy=>hb y (by simp [hy])) hd
     have h3:=h3 rfl
     have hx2:=hb x (by simp)
     refine ⟨?_,by rw [Nat.pow_succ];omega,by omega⟩
     rw [encU,if_neg (by omega),show (x - 128+128 * m) % 128+128=x by omega,show (x - 128+128 * m) / 128=m by omega,h1]
     rfl
    ·cases h
theorem encU_byte:∀ (k n:Nat),n<128 ^ k * 2→∀ x∈encU k n,x<256
 | 0,n,h,x,hx=>by simp [encU] at hx;simp at h;omega
 | k+1,n,h,x,hx=>by
  unfold encU at hx
  split at hx
  ·simp at hx;omega
  ·rcases List.mem_cons.1 hx with rfl | hx
   ·omega
   ·refine encU_byte k (n / 128) ?_ x hx
    rw [Nat.pow_succ] at h
    omega
theorem encU_len:∀ (k n:Nat),1≤(encU k n).length∧(encU k n).length≤k+1
 | 0,_=>by simp [encU]
 | k+1,n=>by
  unfold encU
  split
  ·simp
  ·have:=encU_len k (n / 128);simp;omega
abbrev Bytes (l:List Nat):Prop:=∀ x∈l,x<256
structure Cod (α:Type) where
 enc:α→List Nat
 dec:List Nat→Option (α×List Nat)
 ok:α→Prop
 byt:∀ a,ok a→Bytes (enc a)
 ed:∀ a r,ok a→dec (enc a++r)=some (a,r)
 de:∀ l a r,Bytes l→dec l=some (a,r)→ok a∧l=enc a++r
theorem Bytes.right {a b:List Nat} (h:Bytes (a++b)):Bytes b:=fun x hx=>h x (by simp [hx])
theorem Bytes.append {a b:List Nat} (h:Bytes a) (k:Bytes b):Bytes (a++b):=fun x hx=>(List.mem_append.1 hx).elim (h x) (k x)
theorem Cod.len {α:Type} (c:Cod α) {l:List Nat} {a:α} {r:List Nat} (h:Bytes l) (e:c.dec l=some (a,r)):r.length≤l.length:=by
 obtain ⟨_,rfl⟩:=c.de l a r h e
 simp
def zig (e:Int):Nat:=if e<0 then (-2 * e - 1).toNat else (2 * e).toNat
def zag (n:Nat):Int:=if n % 2=0 then Int.ofNat (n / 2) else -(Int.ofNat (n / 2)) - 1
theorem zag_zig (e:Int):zag (zig e)=e:=by
 unfold zag zig
 have c:∀ n:Nat,Int.ofNat n=(n:Int):=fun _=>rfl
 simp only [c]
 split <;> split <;> omega
theorem zig_zag (n:Nat):zig (zag n)=n:=by
 unfold zag zig
 have c:∀ n:Nat,Int.ofNat n=(n:Int):=fun _=>rfl
 simp only [c]
 split <;> split <;> omega
def encL {α:Type} (f:α→List Nat):List α→List Nat
 | []=>[]
 | a :: l=>f a++encL f l
theorem encL_append {α:Type} (f:α→List Nat):∀ (a b:List α),encL f (a++b)=encL f a++encL f b
 | [],b=>rfl
 | x :: a,b=>by simp only [List.cons_append,encL,encL_append f a b,List.append_assoc]
theorem Cod.inj {α:Type} (c:Cod α) {a b:α} (h:c.ok a) (k:c.ok b):c.enc a=c.enc b↔a=b:=by
 refine ⟨fun e=>?_,fun e=>by rw [e]⟩
 have h1:=c.ed a [] h
 have h2:=c.ed b [] k
 rw [e,h2] at h1
 simp only [Option.some.injEq,Prod.mk.injEq,and_true] at h1
 exact h1.symm
end Am
namespace Am
open Go
def intC (a:Int):List V:=[.int .i64 a]
def byteC (n:Nat):List V:=[.int .u8 (.ofNat n)]
abbrev SpecA:=Int×Int×Int×Int×Int×Int×Int
abbrev BackA:=Int×Int×List Int×List Int
abbrev NeedA:=Int×Int
abbrev FastA:=Int×Int×List SpecA×List (List BackA)×List NeedA
def specC (s:SpecA):List V:=[.int .u8 s.1,.int .i64 s.2.1,.int .i64 s.2.2.1,.int .i64 s.2.2.2.1,.int .i64 s.2.2.2.2.1,.int .i64 s.2.2.2.2.2.1,.int .i64 s.2.2.2.2.2.2]
def needC (n:NeedA):List V:=[.int .i64 n.1,.int .u32 n.2]
def All2 {α β:Type} (R:α→β→Prop) (a:List α) (b:List β):Prop:=a.length=b.length∧∀ (i:Nat) (x:α) (y:β),a[i]? = some x→b[i]? = some y→R x y
theorem All2.nil {α β:Type} (R:α→β→Prop):All2 R [] []:=⟨rfl,by simp⟩
theorem All2.push {α β:Type} {R:α→β→Prop} {a:List α} {b:List β} {x:α} {y:β} (h:All2 R a b) (k:R x y):All2 R (a++[x]) (b++[y]):=by
 refine ⟨by simp [h.1],fun i u v hu hv=>?_⟩
 by_cases hi:i<a.length
 ·rw [List.getElem?_append_left hi] at hu
  rw [List.getElem?_append_left (by have:=h.1;omega)] at hv
  exact h.2 i u v hu hv
 ·have hi2:i<(a++[x]).length:=(List.getElem?_eq_some_iff.1 hu).1
  have:i=a.length:=by simp at hi2;omega
  subst this
  simp at hu
  rw [h.1] at hv
  simp at hv
  subst hu hv
  exact k
theorem All2.mono {α β:Type} {R R':α→β→Prop} {a:List α} {b:List β} (h:All2 R a b) (k:∀ x y,x∈a→y∈b→R x y→R' x y):All2 R' a b:=
 ⟨h.1,fun i x y hx hy=>k x y (List.mem_of_getElem? hx) (List.mem_of_getElem? hy) (h.2 i x y hx hy)⟩
theorem All2.get {α β:Type} {R:α→β→Prop} {a:List α} {b:List β} (h:All2 R a b) {i:Nat} (hi:i<a.length) (hj:i<b.length):R a[i] b[i]:=
 h.2 i _ _ (List.getElem?_eq_getElem hi) (List.getElem?_eq_getElem hj)
def RSz (Z:Nat→Prop) (h:Heap) (esz:Nat) (v:V) (l:List (List V)):Prop:=RS h esz v l∧∀ j∈slIds v,Z j
theorem RSz.ext {Z Z':Nat→Prop} {S:List Nat} {h h':Heap} {esz:Nat} {v:V} {l:List (List V)} (k:RSz Z h esz v l) (hE:ExtX S h h') (hs:∀ j,Z j→j∉S) (hz:∀ j,Z j→Z' j):RSz Z' h' esz v l:=
 ⟨k.1.ext hE fun id off len ver e f hv=>hs id (k.2 id (by rw [hv];simp [slIds])),fun j hj=>hz j (k.2 j hj)⟩
def BackR (Z:Nat→Prop) (h:Heap) (c:List V) (b:BackA):Prop:=∃ vv vs,c=[.int .i64 b.1,.int .i64 b.2.1,vv,vs]∧RSz Z h 1 vv (b.2.2.1.map intC)∧RSz Z h 1 vs (b.2.2.2.map intC)
def ExitR (Z:Nat→Prop) (h:Heap) (c:List V) (l:List BackA):Prop:=∃ v lc,c=[v]∧RSz Z h 4 v lc∧All2 (BackR Z h) lc l
def FastR (Z:Nat→Prop) (h:Heap) (c:List V) (f:FastA):Prop:=∃ vc ve vn le,c=[.int .i64 f.1,.int .i64 f.2.1,vc,ve,vn]∧RSz Z h 7 vc (f.2.2.1.map specC)∧RSz Z h 1 ve le∧All2 (ExitR Z h) le f.2.2.2.1∧RSz Z h 2 vn (f.2.2.2.2.map needC)
section ext
variable {Z Z':Nat→Prop} {S:List Nat} {h h':Heap} {c:List V}
theorem BackR.ext {b:BackA} (k:BackR Z h c b) (hE:ExtX S h h') (hs:∀ j,Z j→j∉S) (hz:∀ j,Z j→Z' j):BackR Z' h' c b:=by
 obtain ⟨vv,vs,e,k1,k2⟩:=k
 exact ⟨vv,vs,e,k1.ext hE hs hz,k2.ext hE hs hz⟩
theorem ExitR.ext {b:List BackA} (k:ExitR Z h c b) (hE:ExtX S h h') (hs:∀ j,Z j→j∉S) (hz:∀ j,Z j→Z' j):ExitR Z' h' c b:=by
 obtain ⟨v,lc,e,k1,k2⟩:=k
 exact ⟨v,lc,e,k1.ext hE hs hz,k2.mono fun x y _ _ k=>k.ext hE hs hz⟩
theorem FastR.ext {b:FastA} (k:FastR Z h c b) (hE:ExtX S h h') (hs:∀ j,Z j→j∉S) (hz:∀ j,Z j→Z' j):FastR Z' h' c b:=by
 obtain ⟨vc,ve,vn,le,e,k1,k2,k3,k4⟩:=k
 exact ⟨vc,ve,vn,le,e,k1.ext hE hs hz,k2.ext hE hs hz,k3.mono fun x y _ _ k=>k.ext hE hs hz,k4.ext hE hs hz⟩
theorem FastR.ext0 {b:FastA} (k:FastR Z h c b) (hE:Ext h h'):FastR Z h' c b:=k.ext hE (by simp) (fun _ h=>h)
theorem ExitR.ext0 {b:List BackA} (k:ExitR Z h c b) (hE:Ext h h'):ExitR Z h' c b:=k.ext hE (by simp) (fun _ h=>h)
theorem BackR.shape {b:BackA} (k:BackR Z h c b):c.length=4∧allOne c=true:=by
 obtain ⟨vv,vs,rfl,k1,k2⟩:=k
 exact ⟨rfl,by simp only [allOne,k1.1.one,k2.1.one];rfl⟩
theorem ExitR.shape {b:List BackA} (k:ExitR Z h c b):c.length=1∧allOne c=true:=by
 obtain ⟨v,lc,rfl,k1,k2⟩:=k
 exact ⟨rfl,by simp only [allOne,k1.1.one]⟩
theorem FastR.shape {b:FastA} (k:FastR Z h c b):c.length=5∧allOne c=true:=by
 obtain ⟨vc,ve,vn,le,rfl,k1,k2,k3,k4⟩:=k
 exact ⟨rfl,by simp only [allOne,k1.1.one,k2.1.one,k4.1.one];rfl⟩
end ext
end Am
namespace Am
open Go
structure RdB (hb:Heap) (b:V) (bs:List Nat):Prop where
 rs:RS hb 1 b (bs.map byteC)
 by_:Bytes bs
 len:bs.length≤4294967296
def RdSt (hb h:Heap) (r:Nat) (b:V) (bs:List Nat):Option (List Nat)→Prop
 | some rest=>hb.n≤r∧Ext hb h∧∃ a,a≤bs.length∧rest=bs.drop a∧Own h r [b,.int .i64 (.ofNat a),.bool false]
 | none=>hb.n≤r∧Ext hb h∧∃ a:Nat,Own h r [b,.int .i64 (.ofNat a),.bool true]
theorem RdSt.ext {S:List Nat} {hb h h':Heap} {r:Nat} {b:V} {bs:List Nat} {σ:Option (List Nat)} (k:RdSt hb h r b bs σ) (hE:ExtX S h h') (hr:r∉S) (hS:∀ j∈S,hb.n≤j):RdSt hb h' r b bs σ:=by
 have hX:∀ {h},Ext hb h→ExtX S h h'→Ext hb h':=fun e k=>e.step k fun j hj=>.inr (hS j hj)
 cases σ with
 | none=>
  obtain ⟨h1,h2,a,h3⟩:=k
  exact ⟨h1,hX h2 hE,a,h3.ext hE hr⟩
 | some l=>
  obtain ⟨h1,h2,a,ha,hl,h3⟩:=k
  exact ⟨h1,hX h2 hE,a,ha,hl,h3.ext hE hr⟩
end Am
namespace Am
open Go
def encI (n:Int):List Nat:=encU 9 (IntKind.u64.wrap n).toNat
def WrSt (hb h:Heap) (w:Nat) (bv:V) (l:List Nat) (bad:Bool):Prop:=
 hb.n≤w∧Ext hb h∧Own h w [bv,.bool bad]∧Ow h 1 bv (l.map byteC)∧∀ j∈slIds bv,hb.n≤j∧j≠w
theorem WrSt.ext {S:List Nat} {hb h h':Heap} {w:Nat} {bv:V} {l:List Nat} {bad:Bool} (k:WrSt hb h w bv l bad) (hE:ExtX S h h') (hw:w∉S) (hv:∀ j∈slIds bv,j∉S) (hS:∀ j∈S,hb.n≤j):WrSt hb h' w bv l bad:=by
 obtain ⟨h1,h2,h3,h4,h5⟩:=k
 exact ⟨h1,h2.step hE fun j hj=>.inr (hS j hj),h3.ext hE hw,h4.ext hE hv,h5⟩
def WrFr (w:Nat) (h:Heap) (bv:V) (h':Heap) (bv':V):Prop:=ExtX (w :: slIds bv) h h'∧∀ j∈slIds bv',j∈slIds bv∨h.n≤j
theorem WrFr.refl (w:Nat) (h:Heap) (bv:V):WrFr w h bv h bv:=⟨ExtX.refl _ _,fun _ h=>.inl h⟩
theorem WrFr.trans {w:Nat} {a b c:Heap} {u v x:V} (h:WrFr w a u b v) (k:WrFr w b v c x):WrFr w a u c x:=by
 refine ⟨h.1.step k.1 fun j hj=>?_,fun j hj=>?_⟩
 ·rcases List.mem_cons.1 hj with rfl | hj
  ·exact .inl (by simp)
  ·rcases h.2 j hj with e | e
   ·exact .inl (by simp [e])
   ·exact .inr e
 ·rcases k.2 j hj with e | e
  ·exact h.2 j e
  ·have:=h.1.1;exact .inr (by omega)
theorem encL_ge {α:Type} {f:α→List Nat} (h:∀ a,1≤(f a).length):∀ l:List α,l.length≤(encL f l).length
 | []=>Nat.le_refl _
 | a :: l=>by
  have h1:=h a
  have h2:=encL_ge h l
  simp only [encL,List.length_cons,List.length_append]
  omega
theorem encL_split {α:Type} (f:α→List Nat) (l:List α) {j:Nat} (hj:j<l.length):(encL f l).length=(encL f (l.take j)).length+(f l[j]).length+(encL f (l.drop (j+1))).length:=by
 have h1:l=l.take j++l[j] :: l.drop (j+1):=by rw [← List.drop_eq_getElem_cons hj,List.take_append_drop]
 have h2:=congrArg (fun l=>(encL f l).length) h1
 simp only [encL_append,encL,List.length_append] at h2
 omega
def zigN (e:Int):Nat:=(IntKind.u64.wrap ((BitVec.ofInt 64 (IntKind.u64.wrap (IntKind.u64.wrap e * 2 ^ 1)) ^^^ BitVec.ofInt 64 (IntKind.u64.wrap (e.fdiv (2 ^ 63)))).toNat:Int)).toNat
def wSpec (s:SpecA):List Nat:=encL encI [s.1,s.2.1,s.2.2.1,s.2.2.2.1,s.2.2.2.2.1,s.2.2.2.2.2.1]++encU 9 (zigN s.2.2.2.2.2.2)
def wBack (b:BackA):List Nat:=encL encI [b.1,b.2.1]++encU 9 b.2.2.1.length++encL encI b.2.2.1++encU 9 b.2.2.2.length++encL encI b.2.2.2
def wExit (l:List BackA):List Nat:=encU 9 l.length++encL wBack l
def wNeed (n:NeedA):List Nat:=encL encI [n.1]++encU 9 n.2.toNat
def wFast (f:FastA):List Nat:=encL encI [f.1,f.2.1]++encU 9 f.2.2.1.length++encL wSpec f.2.2.1++encU 9 f.2.2.2.1.length++encL wExit f.2.2.2.1++encU 9 f.2.2.2.2.length++encL wNeed f.2.2.2.2
theorem encU_ge (k n:Nat):1≤(encU k n).length:=(encU_len k n).1
theorem encI_ge (n:Int):1≤(encI n).length:=(encU_len 9 _).1
theorem wSpec_ge (s:SpecA):1≤(wSpec s).length:=by unfold wSpec;have:=encU_ge 9 (zigN s.2.2.2.2.2.2);rw [List.length_append];omega
theorem wBack_ge (b:BackA):1≤(wBack b).length:=by unfold wBack;have:=encU_ge 9 b.2.2.1.length;simp only [List.length_append];omega
theorem wExit_ge (l:List BackA):1≤(wExit l).length:=by unfold wExit;have:=encU_ge 9 l.length;simp only [List.length_append];omega
theorem wNeed_ge (n:NeedA):1≤(wNeed n).length:=by unfold wNeed;have:=encU_ge 9 n.2.toNat;simp only [List.length_append];omega
def TyF (f:FastA):Prop:=(∀ s∈f.2.2.1,0≤s.1∧s.1≤255)∧∀ n∈f.2.2.2.2,0≤n.2∧n.2≤4294967295
end Am
namespace Am
open Go
theorem all2_ex {α β:Type} {R:α→β→Prop} : ∀ {es:List α},(∀ c∈es,∃ b,R c b)→∃ l,All2 R es l
 | [],_=>⟨[],All2.nil _⟩
 | c :: es,h=>by
  obtain ⟨b,hb⟩:=h c (by simp)
  obtain ⟨l,hl,hr⟩:=all2_ex (es:=es) fun x hx=>h x (by simp [hx])
  refine ⟨b :: l,by simp [hl],fun i x y hx hy=>?_⟩
  cases i with
  | zero=>simp at hx hy;subst hx hy;exact hb
  | succ i=>exact hr i x y (by simpa using hx) (by simpa using hy)
theorem all2_map {α:Type} {f:α→List V} {es:List (List V)} {l:List α} (h:All2 (fun c a=>c=f a) es l):es=l.map f:=by
 refine List.ext_getElem? fun i=>?_
 rw [List.getElem?_map]
 cases h1:es[i]? with
 | none=>
  have:l[i]? = none:=by rw [List.getElem?_eq_none_iff] at h1 ⊢;rw [← h.1];exact h1
  rw [this];rfl
 | some c=>
  obtain ⟨hi,_⟩:=List.getElem?_eq_some_iff.1 h1
  have hj:i<l.length:=by rw [← h.1];exact hi
  have h2:=List.getElem?_eq_getElem hj
  rw [h2,h.2 i c l[i] h1 h2];rfl
theorem all2_mem {α β:Type} {R:α→β→Prop} {es:List α} {l:List β} (h:All2 R es l) {b:β} (hb:b∈l):∃ c∈es,R c b:=by
 obtain ⟨i,hi,rfl⟩:=List.mem_iff_getElem.1 hb
 have hj:i<es.length:=by rw [h.1];exact hi
 exact ⟨es[i],List.getElem_mem hj,h.get hj hi⟩
theorem encL_bulk {α:Type} {f:α→List Nat} : ∀ {es:List (List V)} {l:List α},All2 (fun e a=>(f a).length≤10 * bulkL e) es l→(encL f l).length≤10 * bulkL (es.map .agg)
 | [],[],_=>by simp [encL]
 | [],_ :: _,h=>by cases h.1
 | _ :: _,[],h=>by cases h.1
 | e :: es,a :: l,h=>by
  have h1:(f a).length≤10 * bulkL e:=h.2 0 e a rfl rfl
  have h2:=encL_bulk (f:=f) (es:=es) (l:=l) ⟨by simpa using h.1,fun i x y hx hy=>h.2 (i+1) x y (by simpa using hx) (by simpa using hy)⟩
  simp only [encL,List.length_append,List.map_cons,bulkL,bulkV]
  omega
theorem encU_10 (n:Nat):(encU 9 n).length≤10:=(encU_len 9 n).2
theorem encI_10 (n:Int):(encI n).length≤10:=(encU_len 9 _).2
theorem ints_10:∀ l:List Int,(encL encI l).length≤10 * l.length
 | []=>Nat.le_refl _
 | a :: l=>by
  have h1:=encI_10 a
  have h2:=ints_10 l
  simp only [encL,List.length_append,List.length_cons]
  omega
theorem wSpec_10 (s:SpecA):(wSpec s).length≤10 * bulkL (specC s):=by
 unfold wSpec
 have h1:=ints_10 [s.1,s.2.1,s.2.2.1,s.2.2.2.1,s.2.2.2.2.1,s.2.2.2.2.2.1]
 have h2:=encU_10 (zigN s.2.2.2.2.2.2)
 simp only [List.length_append,specC,bulkL,bulkV,List.length_cons,List.length_nil] at h1 ⊢
 omega
theorem wNeed_10 (n:NeedA):(wNeed n).length≤10 * bulkL (needC n):=by
 unfold wNeed
 have h1:=ints_10 [n.1]
 have h2:=encU_10 n.2.toNat
 simp only [List.length_append,needC,bulkL,bulkV,List.length_cons,List.length_nil] at h1 ⊢
 omega
end Am
namespace Am
open Go
inductive Val where
 | mk (k n:Int) (s:List UInt8) (l:List Val)
mutual
def VaR (Z:Nat→Prop) (h:Heap):Val→List V→Prop
 | .mk k n s l,c=>∃ v lc,c=[.int .u8 k,.int .i64 n,.str s,v]∧RSz Z h 4 v lc∧VasR Z h l lc
def VasR (Z:Nat→Prop) (h:Heap):List Val→List (List V)→Prop
 | [],lc=>lc=[]
 | a :: l,lc=>∃ c lc',lc=c :: lc'∧VaR Z h a c∧VasR Z h l lc'
end
mutual
theorem VaR.ext {Z Z':Nat→Prop} {S:List Nat} {h h':Heap} (hE:ExtX S h h') (hs:∀ j,Z j→j∉S) (hz:∀ j,Z j→j<h.n→Z' j):∀ {a:Val} {c:List V},VaR Z h a c→VaR Z' h' a c
 | .mk k n s l,c,ha=>by
  unfold VaR at ha ⊢
  obtain ⟨v,lc,e,h1,h2⟩:=ha
  exact ⟨v,lc,e,⟨h1.1.ext hE fun id off len ver e f hv=>hs id (h1.2 id (by rw [hv];simp [slIds])),fun j hj=>hz j (h1.2 j hj) (h1.1.lt j hj)⟩,VasR.ext hE hs hz h2⟩
theorem VasR.ext {Z Z':Nat→Prop} {S:List Nat} {h h':Heap} (hE:ExtX S h h') (hs:∀ j,Z j→j∉S) (hz:∀ j,Z j→j<h.n→Z' j):∀ {l:List Val} {lc:List (List V)},VasR Z h l lc→VasR Z' h' l lc
 | [],lc,ha=>by unfold VasR at ha ⊢;exact ha
 | a :: l,lc,ha=>by
  unfold VasR at ha ⊢
  obtain ⟨c,lc',e,h1,h2⟩:=ha
  exact ⟨c,lc',e,VaR.ext hE hs hz h1,VasR.ext hE hs hz h2⟩
end
theorem VaR.ext0 {Z:Nat→Prop} {h h':Heap} {a:Val} {c:List V} (k:VaR Z h a c) (hE:Ext h h'):VaR Z h' a c:=k.ext hE (by simp) fun _ h _=>h
theorem VasR.ext0 {Z:Nat→Prop} {h h':Heap} {l:List Val} {lc:List (List V)} (k:VasR Z h l lc) (hE:Ext h h'):VasR Z h' l lc:=k.ext hE (by simp) fun _ h _=>h
theorem VaR.shape {Z:Nat→Prop} {h:Heap} {a:Val} {c:List V} (k:VaR Z h a c):c.length=4∧allOne c=true:=by
 cases a
 unfold VaR at k
 obtain ⟨v,lc,rfl,h1,h2⟩:=k
 exact ⟨rfl,by simp only [allOne,h1.1.one];rfl⟩
theorem VasR.nil (Z:Nat→Prop) (h:Heap):VasR Z h [] []:=by unfold VasR;rfl
theorem VasR.cons {Z:Nat→Prop} {h:Heap} {a:Val} {l:List Val} {c:List V} {lc:List (List V)} (k:VaR Z h a c) (k2:VasR Z h l lc):VasR Z h (a :: l) (c :: lc):=by
 unfold VasR;exact ⟨c,lc,rfl,k,k2⟩
theorem VasR.len {Z:Nat→Prop} {h:Heap} : ∀ {l:List Val} {lc:List (List V)},VasR Z h l lc→lc.length=l.length
 | [],lc,k=>by unfold VasR at k;rw [k];rfl
 | a :: l,lc,k=>by
  unfold VasR at k
  obtain ⟨c,lc',rfl,_,h2⟩:=k
  rw [List.length_cons,List.length_cons,h2.len]
theorem VasR.get {Z:Nat→Prop} {h:Heap} : ∀ {l:List Val} {lc:List (List V)},VasR Z h l lc→∀ {i:Nat} (hi:i<l.length) (hj:i<lc.length),VaR Z h l[i] lc[i]
 | [],lc,k,i,hi,hj=>by cases hi
 | a :: l,lc,k,i,hi,hj=>by
  unfold VasR at k
  obtain ⟨c,lc',rfl,h1,h2⟩:=k
  cases i with
  | zero=>exact h1
  | succ i=>exact h2.get (by simpa using hi) (by simpa using hj)
theorem VasR.set {Z:Nat→Prop} {h:Heap} {b:Val} {d:List V} (hb:VaR Z h b d):∀ {l:List Val} {lc:List (List V)} (n:Nat),VasR Z h l lc→VasR Z h (l.set n b) (lc.set n d)
 | [],lc,n,k=>by unfold VasR at k;subst k;simpa using VasR.nil Z h
 | a :: l,lc,0,k=>by
  unfold VasR at k
  obtain ⟨c,lc',rfl,h1,h2⟩:=k
  exact VasR.cons hb h2
 | a :: l,lc,n+1,k=>by
  unfold VasR at k
  obtain ⟨c,lc',rfl,h1,h2⟩:=k
  exact VasR.cons h1 (h2.set hb n)
structure InsA where
 op:Int
 a:Int
 b:Int
structure FnA where
 name:List UInt8
 params:Int
 vars:Int
 code:List InsA
structure OnA where
 tag:List UInt8
 params:Int
 fn:Int
structure PartA where
 name:List UInt8
 params:Int
 on:List OnA
structure ModA where
 consts:List Val
 tags:List (List UInt8)
 fns:List FnA
 roles:List PartA
def insC (i:InsA):List V:=[.int .u8 i.op,.int .i64 i.a,.int .i64 i.b]
def onC (o:OnA):List V:=[.str o.tag,.int .i64 o.params,.int .i64 o.fn]
def tagC (t:List UInt8):List V:=[.str t]
def FnR (Z:Nat→Prop) (h:Heap) (c:List V) (f:FnA):Prop:=∃ v,c=[.str f.name,.int .i64 f.params,.int .i64 f.vars,v]∧RSz Z h 3 v (f.code.map insC)
def PartR (Z:Nat→Prop) (h:Heap) (c:List V) (p:PartA):Prop:=∃ v,c=[.str p.name,.int .i64 p.params,v]∧RSz Z h 3 v (p.on.map onC)
def ModR (Z:Nat→Prop) (h:Heap) (c:List V) (m:ModA):Prop:=
 ∃ cs ts fs rs lc lf lr,c=[cs,ts,fs,rs]∧RSz Z h 4 cs lc∧VasR Z h m.consts lc∧RSz Z h 1 ts (m.tags.map tagC)∧RSz Z h 4 fs lf∧All2 (FnR Z h) lf m.fns∧RSz Z h 3 rs lr∧All2 (PartR Z h) lr m.roles
structure Frm where
 fn:Nat
 at_:Nat
 vars:List Val
 stack:List Val
structure Eff where
 to:Int
 role:Int
 tag:List UInt8
 args:List Val
structure Trn where
 frames:List Frm
 effs:List Eff
 self:Int
 next:Int
 used:Int
 over:Int
 trap:Int
 role:Int
 state:List Val
def EffR (Z:Nat→Prop) (h:Heap) (c:List V) (e:Eff):Prop:=∃ v lc,c=[.int .i64 e.to,.int .i64 e.role,.str e.tag,v]∧RSz Z h 4 v lc∧VasR Z h e.args lc
abbrev Lab:=Nat→Nat
def FrmR (L:Lab) (h:Heap) (k:Nat) (c:List V) (f:Frm):Prop:=
 ∃ vv stk lv ls,c=[.int .i64 (.ofNat f.fn),.int .i64 (.ofNat f.at_),vv,stk]∧Ow h 4 vv lv∧VasR (fun i=>L i=0) h f.vars lv∧Ow h 4 stk ls∧VasR (fun i=>L i=0) h f.stack ls∧(∀ i∈slIds vv,L i=2 * k+4)∧∀ i∈slIds stk,L i=2 * k+5
theorem FrmR.ext {L L':Lab} {S:List Nat} {h h':Heap} {k:Nat} {c:List V} {f:Frm} (r:FrmR L h k c f) (hE:ExtX S h h') (hs:∀ j∈S,L j≠0∧L j≠2 * k+4∧L j≠2 * k+5) (hL:∀ j,j<h.n→L' j=L j):FrmR L' h' k c f:=by
 obtain ⟨vv,stk,lv,ls,e,h1,h2,h3,h4,h5,h6⟩:=r
 refine ⟨vv,stk,lv,ls,e,h1.ext hE fun j hj e=>?_,h2.ext hE (fun j hj e=>(hs j e).1 hj) fun j hj hl=>by show L' j=0;rw [hL j hl];exact hj,h3.ext hE fun j hj e=>?_,h4.ext hE (fun j hj e=>(hs j e).1 hj) fun j hj hl=>by show L' j=0;rw [hL j hl];exact hj,fun j hj=>?_,fun j hj=>?_⟩
 ·exact (hs j e).2.1 (h5 j hj)
 ·exact (hs j e).2.2 (h6 j hj)
 ·rw [hL j (h1.rs.lt j hj)];exact h5 j hj
 ·rw [hL j (h3.rs.lt j hj)];exact h6 j hj
theorem FrmR.shape {L:Lab} {h:Heap} {k:Nat} {c:List V} {f:Frm} (r:FrmR L h k c f):c.length=4∧allOne c=true:=by
 obtain ⟨vv,stk,lv,ls,rfl,h1,h2,h3,h4,h5,h6⟩:=r
 exact ⟨rfl,by simp only [allOne,h1.rs.one,h3.rs.one];rfl⟩
theorem FnR.ext {Z Z':Nat→Prop} {S:List Nat} {h h':Heap} {c:List V} {f:FnA} (r:FnR Z h c f) (hE:ExtX S h h') (hs:∀ j,Z j→j∉S) (hz:∀ j,Z j→j<h.n→Z' j):FnR Z' h' c f:=by
 obtain ⟨v,e,h1⟩:=r
 exact ⟨v,e,h1.1.ext hE fun id off len ver e f hv=>hs id (h1.2 id (by rw [hv];simp [slIds])),fun j hj=>hz j (h1.2 j hj) (h1.1.lt j hj)⟩
theorem PartR.ext {Z Z':Nat→Prop} {S:List Nat} {h h':Heap} {c:List V} {f:PartA} (r:PartR Z h c f) (hE:ExtX S h h') (hs:∀ j,Z j→j∉S) (hz:∀ j,Z j→j<h.n→Z' j):PartR Z' h' c f:=by
 obtain ⟨v,e,h1⟩:=r
 exact ⟨v,e,h1.1.ext hE fun id off len ver e f hv=>hs id (h1.2 id (by rw [hv];simp [slIds])),fun j hj=>hz j (h1.2 j hj) (h1.1.lt j hj)⟩
theorem EffR.ext {Z Z':Nat→Prop} {S:List Nat} {h h':Heap} {c:List V} {f:Eff} (r:EffR Z h c f) (hE:ExtX S h h') (hs:∀ j,Z j→j∉S) (hz:∀ j,Z j→j<h.n→Z' j):EffR Z' h' c f:=by
 obtain ⟨v,lc,e,h1,h2⟩:=r
 exact ⟨v,lc,e,⟨h1.1.ext hE fun id off len ver e f hv=>hs id (h1.2 id (by rw [hv];simp [slIds])),fun j hj=>hz j (h1.2 j hj) (h1.1.lt j hj)⟩,h2.ext hE hs hz⟩
theorem RSz.extL {Z Z':Nat→Prop} {S:List Nat} {h h':Heap} {esz:Nat} {v:V} {l:List (List V)} (h1:RSz Z h esz v l) (hE:ExtX S h h') (hs:∀ j,Z j→j∉S) (hz:∀ j,Z j→j<h.n→Z' j):RSz Z' h' esz v l:=
 ⟨h1.1.ext hE fun id off len ver e f hv=>hs id (h1.2 id (by rw [hv];simp [slIds])),fun j hj=>hz j (h1.2 j hj) (h1.1.lt j hj)⟩
theorem ModR.ext {Z Z':Nat→Prop} {S:List Nat} {h h':Heap} {c:List V} {m:ModA} (r:ModR Z h c m) (hE:ExtX S h h') (hs:∀ j,Z j→j∉S) (hz:∀ j,Z j→j<h.n→Z' j):ModR Z' h' c m:=by
 obtain ⟨cs,ts,fs,rs,lc,lf,lr,e,h1,h2,h3,h4,h5,h6,h7⟩:=r
 exact ⟨cs,ts,fs,rs,lc,lf,lr,e,h1.extL hE hs hz,h2.ext hE hs hz,h3.extL hE hs hz,h4.extL hE hs hz,h5.mono fun _ _ _ _ k=>k.ext hE hs hz,h6.extL hE hs hz,h7.mono fun _ _ _ _ k=>k.ext hE hs hz⟩
theorem ModR.shape {Z:Nat→Prop} {h:Heap} {c:List V} {m:ModA} (r:ModR Z h c m):c.length=4∧allOne c=true:=by
 obtain ⟨cs,ts,fs,rs,lc,lf,lr,rfl,h1,h2,h3,h4,h5,h6,h7⟩:=r
 exact ⟨rfl,by simp only [allOne,h1.1.one,h3.1.one,h4.1.one,h6.1.one]⟩
def FrmsR (L:Lab) (h:Heap) (lc:List (List V)) (fs:List Frm):Prop:=lc.length=fs.length∧∀ (i:Nat) (c:List V) (f:Frm),lc[i]? = some c→fs[i]? = some f→FrmR L h i c f
end Am
namespace Am
open Go
mutual
def encV:Val→List Nat
 | .mk k n s l=>k.toNat :: (if k=2 then [n.toNat] else if k=3 then encU 9 s.length++s.map UInt8.toNat else if k=4 then encU 9 l.length++encVs l else encU 9 (zig n))
def encVs:List Val→List Nat
 | []=>[]
 | a :: l=>encV a++encVs l
end
mutual
def pcs:Val→Nat
 | .mk _ _ _ l=>1+pcss l
def pcss:List Val→Nat
 | []=>0
 | a :: l=>pcs a+pcss l
end
mutual
def okV:Nat→Val→Prop
 | lv,.mk k n s l=>0<lv∧(k=1∧-9223372036854775808≤n∧n<9223372036854775808∧s=[]∧l=[]∨k=2∧(n=0∨n=1)∧s=[]∧l=[]∨
  k=3∧n=0∧s.length≤4096∧l=[]∨k=4∧n=0∧s=[]∧okVs (lv - 1) l∨k=5∧0≤n∧n<9223372036854775808∧s=[]∧l=[])
def okVs:Nat→List Val→Prop
 | _,[]=>True
 | lv,a :: l=>okV lv a∧okVs lv l
end
def repV (f:Nat→List Nat→Option (Val×Nat×List Nat)):Nat→Nat→List Nat→Option (List Val×Nat×List Nat)
 | 0,left,l=>some ([],left,l)
 | m+1,left,l=>match f left l with
  | none=>none
  | some (a,left',r)=>match repV f m left' r with
   | none=>none
   | some (ax,left2,r2)=>some (a :: ax,left2,r2)
def decV:Nat→Nat→List Nat→Option (Val×Nat×List Nat)
 | 0,_,_=>none
 | _+1,0,_=>none
 | _+1,_+1,[]=>none
 | lv+1,left+1,k :: r=>
  if k=2 then (match r with
   | []=>none
   | x :: r'=>if x≤1 then some (.mk 2 (Int.ofNat x) [] [],left,r') else none)
  else if k=3 then (match dU 9 true r with
   | none=>none
   | some (m,r')=>if m≤4096∧m≤r'.length then some (.mk 3 0 ((r'.take m).map UInt8.ofNat) [],left,r'.drop m) else none)
  else if k=4 then (match dU 9 true r with
   | none=>none
   | some (m,r')=>if m≤256 then (match repV (decV lv) m left r' with
    | none=>none
    | some (l,left',r2)=>some (.mk 4 0 [] l,left',r2)) else none)
  else if k=1∨k=5 then (match dU 9 true r with
   | none=>none
   | some (m,r')=>if k=5∧zag m<0 then none else some (.mk (Int.ofNat k) (zag m) [] [],left,r'))
  else none
theorem pcs_pos:∀ v:Val,1≤pcs v
 | .mk _ _ _ l=>by unfold pcs;omega
theorem pcss_len:∀ l:List Val,l.length≤pcss l
 | []=>Nat.zero_le _
 | a :: l=>by have:=pcs_pos a;have:=pcss_len l;unfold pcss;simp only [List.length_cons];omega
theorem zig_lt {n:Int} (h : -9223372036854775808≤n) (h2:n<9223372036854775808):zig n<128 ^ 9 * 2:=by
 unfold zig;simp;split <;> omega
theorem zag_rng {m:Nat} (h:m<128 ^ 9 * 2) : -9223372036854775808≤zag m∧zag m<9223372036854775808:=by
 have c:∀ n:Nat,Int.ofNat n=(n:Int):=fun _=>rfl
 unfold zag
 simp only [c]
 simp at h
 split <;> omega
theorem u8_back (s:List UInt8):(s.map UInt8.toNat).map UInt8.ofNat=s:=by
 induction s with
 | nil=>rfl
 | cons x s ih=>simp [ih]
theorem u8_forth {l:List Nat} (h:Bytes l):(l.map UInt8.ofNat).map UInt8.toNat=l:=by
 induction l with
 | nil=>rfl
 | cons x l ih=>
  have hx:=h x (by simp)
  simp only [List.map_cons,ih fun y hy=>h y (by simp [hy])]
  rw [UInt8.toNat_ofNat_of_lt' (by simpa using hx)]
theorem rep_enc {lv:Nat} (ih:∀ (v:Val) (left:Nat) (r:List Nat),left≤256→okV lv v→pcs v≤left→decV lv left (encV v++r)=some (v,left - pcs v,r)) :
  ∀ (l:List Val) (left:Nat) (r:List Nat),left≤256→okVs lv l→pcss l≤left→repV (decV lv) l.length left (encVs l++r)=some (l,left - pcss l,r)
 | [],left,r,_,_,_=>rfl
 | a :: l,left,r,hL,h,hp=>by
  unfold okVs at h
  unfold pcss at hp
  have h1:=ih a left (encVs l++r) hL h.1 (by omega)
  have h2:=rep_enc ih l (left - pcs a) r (by omega) h.2 (by omega)
  simp only [List.length_cons,encVs,List.append_assoc,repV,h1,h2,pcss,Option.some.injEq,Prod.mk.injEq,true_and,and_true]
  omega
theorem decV_enc:∀ (lv:Nat) (v:Val) (left:Nat) (r:List Nat),left≤256→okV lv v→pcs v≤left→decV lv left (encV v++r)=some (v,left - pcs v,r)
 | 0,.mk k n s l,left,r,_,h,_=>by unfold okV at h;omega
 | lv+1,.mk k n s l,0,r,_,h,hp=>by have:=pcs_pos (.mk k n s l);omega
 | lv+1,.mk k n s l,left+1,r,hL,h,hp=>by
  unfold okV at h
  unfold pcs at hp
  unfold encV pcs
  rcases h.2 with ⟨rfl,h1,h2,rfl,rfl⟩ | ⟨rfl,h1,rfl,rfl⟩ | ⟨rfl,rfl,h1,rfl⟩ | ⟨rfl,rfl,rfl,h1⟩ | ⟨rfl,h1,h2,rfl,rfl⟩
  ·rw [if_neg (by decide),if_neg (by decide),if_neg (by decide)]
   have hd:=dU_enc 9 (zig n) true r (zig_lt h1 h2) (.inl rfl)
   have e:(1:Int).toNat=1:=rfl
   simp only [e,List.cons_append,decV,hd]
   simp only [zag_zig,pcss]
   rfl
  ·rw [if_pos rfl]
   have e:(2:Int).toNat=2:=rfl
   simp only [e,List.cons_append,List.nil_append,decV,pcss]
   rcases h1 with rfl | rfl <;> rfl
  ·rw [if_neg (by decide),if_pos rfl]
   have hd:=dU_enc 9 s.length true (s.map UInt8.toNat++r) (by simp;omega) (.inl rfl)
   have e:(3:Int).toNat=3:=rfl
   simp only [e,List.cons_append,List.append_assoc,decV,hd,pcss]
   have hl:(s.map UInt8.toNat).length=s.length:=List.length_map ..
   rw [if_neg (by decide),if_pos trivial,if_pos ⟨h1,by simp⟩,List.take_left' hl,List.drop_left' hl,u8_back]
   rfl
  ·rw [if_neg (by decide),if_neg (by decide),if_pos rfl]
   have hl:=pcss_len l
   have hd:=dU_enc 9 l.length true (encVs l++r) (by simp;omega) (.inl rfl)
   have hr:=rep_enc (fun v left r=>decV_enc lv v left r) l left r (by omega) h1 (by omega)
   have e:(4:Int).toNat=4:=rfl
   simp only [e,List.cons_append,List.append_assoc,decV,hd,hr]
   rw [if_neg (by decide),if_neg (by decide),if_pos trivial,if_pos (by omega)]
   simp only [Option.some.injEq,Prod.mk.injEq,true_and,and_true]
   omega
  ·rw [if_neg (by decide),if_neg (by decide),if_neg (by decide)]
   have hd:=dU_enc 9 (zig n) true r (zig_lt (by omega) h2) (.inl rfl)
   have e:(5:Int).toNat=5:=rfl
   simp only [e,List.cons_append,decV,hd]
   simp only [zag_zig,pcss]
   rw [if_neg (by decide),if_neg (by decide),if_neg (by decide),if_pos (by decide),if_neg (by omega)]
   rfl
theorem rep_dec {lv:Nat} (ih:∀ (left:Nat) (l:List Nat) (v:Val) (left':Nat) (r:List Nat),Bytes l→decV lv left l=some (v,left',r)→okV lv v∧left=left'+pcs v∧l=encV v++r) :
  ∀ (m left:Nat) (l:List Nat) (vs:List Val) (left':Nat) (r:List Nat),Bytes l→repV (decV lv) m left l=some (vs,left',r)→vs.length=m∧okVs lv vs∧left=left'+pcss vs∧l=encVs vs++r
 | 0,left,l,vs,left',r,_,h=>by
  simp only [repV,Option.some.injEq,Prod.mk.injEq] at h
  obtain ⟨rfl,rfl,rfl⟩:=h
  exact ⟨rfl,by unfold okVs;trivial,rfl,rfl⟩
 | m+1,left,l,vs,left',r,hb,h=>by
  simp only [repV] at h
  cases h1:decV lv left l with
  | none=>rw [h1] at h;cases h
  | some y=>
   obtain ⟨a,left1,r1⟩:=y
   rw [h1] at h
   simp only at h
   cases h2:repV (decV lv) m left1 r1 with
   | none=>rw [h2] at h;cases h
   | some z=>
    obtain ⟨ax,left2,r2⟩:=z
    rw [h2] at h
    simp only [Option.some.injEq,Prod.mk.injEq] at h
    obtain ⟨rfl,rfl,rfl⟩:=h
    obtain ⟨k1,k2,rfl⟩:=ih left l a left1 r1 hb h1
    obtain ⟨q1,q2,q3,rfl⟩:=rep_dec ih m left1 r1 ax left2 r2 hb.right h2
    refine ⟨by simp [q1],by unfold okVs;exact ⟨k1,q2⟩,?_,by simp only [encVs,List.append_assoc]⟩
    unfold pcss
    omega
theorem decV_dec:∀ (lv left:Nat) (l:List Nat) (v:Val) (left':Nat) (r:List Nat),Bytes l→decV lv left l=some (v,left',r)→okV lv v∧left=left'+pcs v∧l=encV v++r
 | 0,left,l,v,left',r,_,h=>by unfold decV at h;cases h
 | lv+1,0,l,v,left',r,_,h=>by unfold decV at h;cases h
 | lv+1,left+1,[],v,left',r,_,h=>by unfold decV at h;cases h
 | lv+1,left+1,k :: l,v,left',r,hb,h=>by
  have hb1:Bytes l:=fun x hx=>hb x (by simp [hx])
  unfold decV at h
  by_cases e2:k=2
  ·subst e2
   rw [if_pos rfl] at h
   cases l with
   | nil=>cases h
   | cons x l=>
    simp only at h
    by_cases hx:x≤1
    ·rw [if_pos hx] at h
     simp only [Option.some.injEq,Prod.mk.injEq] at h
     obtain ⟨rfl,rfl,rfl⟩:=h
     have:x=0∨x=1:=by omega
     rcases this with rfl | rfl
     ·exact ⟨by unfold okV;exact ⟨by omega,.inr (.inl ⟨rfl,.inl rfl,rfl,rfl⟩)⟩,by simp only [pcs,pcss],by unfold encV;rfl⟩
     ·exact ⟨by unfold okV;exact ⟨by omega,.inr (.inl ⟨rfl,.inr rfl,rfl,rfl⟩)⟩,by simp only [pcs,pcss],by unfold encV;rfl⟩
    ·rw [if_neg hx] at h;cases h
  rw [if_neg e2] at h
  by_cases e3:k=3
  ·subst e3
   rw [if_pos rfl] at h
   cases hd:dU 9 true l with
   | none=>rw [hd] at h;cases h
   | some y=>
    obtain ⟨m,r1⟩:=y
    rw [hd] at h
    simp only at h
    obtain ⟨rfl,_,_⟩:=dU_dec 9 true l m r1 hb1 hd
    by_cases hm:m≤4096∧m≤r1.length
    ·rw [if_pos hm] at h
     simp only [Option.some.injEq,Prod.mk.injEq] at h
     obtain ⟨rfl,rfl,rfl⟩:=h
     have hl:((r1.take m).map UInt8.ofNat).length=m:=by simp;omega
     refine ⟨by unfold okV;exact ⟨by omega,.inr (.inr (.inl ⟨rfl,rfl,by omega,rfl⟩))⟩,by simp only [pcs,pcss],?_⟩
     unfold encV
     rw [if_neg (by decide),if_pos rfl,hl,u8_forth fun x hx=>hb1 x (List.mem_append.2 (.inr (List.mem_of_mem_take hx)))]
     simp only [List.cons_append,List.append_assoc,List.take_append_drop]
     rfl
    ·rw [if_neg hm] at h;cases h
  rw [if_neg e3] at h
  by_cases e4:k=4
  ·subst e4
   rw [if_pos rfl] at h
   cases hd:dU 9 true l with
   | none=>rw [hd] at h;cases h
   | some y=>
    obtain ⟨m,r1⟩:=y
    rw [hd] at h
    simp only at h
    obtain ⟨rfl,_,_⟩:=dU_dec 9 true l m r1 hb1 hd
    by_cases hm:m≤256
    ·rw [if_pos hm] at h
     cases h2:repV (decV lv) m left r1 with
     | none=>rw [h2] at h;cases h
     | some z=>
      obtain ⟨vs,left2,r2⟩:=z
      rw [h2] at h
      simp only [Option.some.injEq,Prod.mk.injEq] at h
      obtain ⟨rfl,rfl,rfl⟩:=h
      obtain ⟨q1,q2,q3,rfl⟩:=rep_dec (fun left l v left' r=>decV_dec lv left l v left' r) m left r1 vs left2 r2 hb1.right h2
      refine ⟨by unfold okV;exact ⟨by omega,.inr (.inr (.inr (.inl ⟨rfl,rfl,rfl,q2⟩)))⟩,by simp only [pcs];omega,?_⟩
      unfold encV
      rw [if_neg (by decide),if_neg (by decide),if_pos rfl,q1]
      simp only [List.cons_append,List.append_assoc]
      rfl
    ·rw [if_neg hm] at h;cases h
  rw [if_neg e4] at h
  by_cases e5:k=1∨k=5
  ·rw [if_pos e5] at h
   cases hd:dU 9 true l with
   | none=>rw [hd] at h;cases h
   | some y=>
    obtain ⟨m,r1⟩:=y
    rw [hd] at h
    simp only at h
    obtain ⟨rfl,hm,_⟩:=dU_dec 9 true l m r1 hb1 hd
    have hz:=zag_rng hm
    by_cases hc:k=5∧zag m<0
    ·rw [if_pos hc] at h;cases h
    ·rw [if_neg hc] at h
     simp only [Option.some.injEq,Prod.mk.injEq] at h
     obtain ⟨rfl,rfl,rfl⟩:=h
     rcases e5 with rfl | rfl
     ·refine ⟨by unfold okV;exact ⟨by omega,.inl ⟨rfl,hz.1,hz.2,rfl,rfl⟩⟩,by simp only [pcs,pcss],?_⟩
      unfold encV
      rw [if_neg (by decide),if_neg (by decide),if_neg (by decide),zig_zag]
      rfl
     ·refine ⟨by unfold okV;exact ⟨by omega,.inr (.inr (.inr (.inr ⟨rfl,by omega,hz.2,rfl,rfl⟩)))⟩,by simp only [pcs,pcss],?_⟩
      unfold encV
      rw [if_neg (by decide),if_neg (by decide),if_neg (by decide),zig_zag]
      rfl
  ·rw [if_neg e5] at h;cases h
theorem vs_byt {lv:Nat} (ih:∀ v:Val,okV lv v→pcs v≤256→Bytes (encV v)):∀ l:List Val,okVs lv l→pcss l≤256→Bytes (encVs l)
 | [],_,_=>fun x hx=>by simp only [encVs] at hx;cases hx
 | a :: l,h,hp=>by
  unfold okVs at h
  unfold pcss at hp
  unfold encVs
  exact (ih a h.1 (by omega)).append (vs_byt ih l h.2 (by omega))
theorem u8_byt (s:List UInt8):Bytes (s.map UInt8.toNat):=fun x hx=>by
 obtain ⟨y,_,rfl⟩:=List.mem_map.1 hx
 exact UInt8.toNat_lt y
theorem v_byt:∀ (lv:Nat) (v:Val),okV lv v→pcs v≤256→Bytes (encV v)
 | 0,.mk k n s l,h,_=>by unfold okV at h;omega
 | lv+1,.mk k n s l,h,hp=>by
  unfold okV at h
  unfold pcs at hp
  unfold encV
  intro x hx
  rcases List.mem_cons.1 hx with rfl | hx
  ·rcases h.2 with ⟨rfl,_⟩ | ⟨rfl,_⟩ | ⟨rfl,_⟩ | ⟨rfl,_⟩ | ⟨rfl,_⟩ <;> decide
  rcases h.2 with ⟨rfl,h1,h2,rfl,rfl⟩ | ⟨rfl,h1,rfl,rfl⟩ | ⟨rfl,rfl,h1,rfl⟩ | ⟨rfl,rfl,rfl,h1⟩ | ⟨rfl,h1,h2,rfl,rfl⟩
  ·rw [if_neg (by decide),if_neg (by decide),if_neg (by decide)] at hx
   exact encU_byte 9 _ (zig_lt h1 h2) x hx
  ·rw [if_pos rfl] at hx
   simp at hx
   subst hx
   rcases h1 with rfl | rfl <;> decide
  ·rw [if_neg (by decide),if_pos rfl] at hx
   exact Bytes.append (encU_byte 9 s.length (by simp;omega)) (u8_byt s) x hx
  ·rw [if_neg (by decide),if_neg (by decide),if_pos rfl] at hx
   have:=pcss_len l
   exact Bytes.append (encU_byte 9 l.length (by simp;omega)) (vs_byt (v_byt lv) l h1 (by omega)) x hx
  ·rw [if_neg (by decide),if_neg (by decide),if_neg (by decide)] at hx
   exact encU_byte 9 _ (zig_lt (by omega) h2) x hx
def cVal:Cod Val where
 enc:=encV
 dec l:=match decV 16 256 l with
  | none=>none
  | some (v,_,r)=>some (v,r)
 ok v:=okV 16 v∧pcs v≤256
 byt v h:=v_byt 16 v h.1 h.2
 ed v r h:=by simp only [decV_enc 16 v 256 r (Nat.le_refl _) h.1 h.2]
 de l v r hb h:=by
  cases hd:decV 16 256 l with
  | none=>simp only [hd] at h;cases h
  | some y=>
   obtain ⟨v',left,r'⟩:=y
   simp only [hd,Option.some.injEq,Prod.mk.injEq] at h
   obtain ⟨rfl,rfl⟩:=h
   obtain ⟨k1,k2,k3⟩:=decV_dec 16 256 l v' left r' hb hd
   exact ⟨⟨k1,by omega⟩,k3⟩
mutual
def RngV:Val→Prop
 | .mk _ n _ l=>-9223372036854775808≤n∧n<9223372036854775808∧l.length≤2097152∧RngVl l
def RngVl:List Val→Prop
 | []=>True
 | a :: l=>RngV a∧RngVl l
end
theorem RngVl.mem:∀ {l:List Val},RngVl l→∀ a∈l,RngV a
 | [],_,a,h=>by cases h
 | b :: l,k,a,h=>by
  unfold RngVl at k
  rcases List.mem_cons.1 h with rfl | h
  ·exact k.1
  ·exact k.2.mem a h
def I64 (n:Int):Prop:=-9223372036854775808≤n∧n<9223372036854775808
end Am
namespace Am
open Go
def Val.kind:Val→Int | .mk k _ _ _=>k
def Val.num:Val→Int | .mk _ n _ _=>n
def Val.txt:Val→List UInt8 | .mk _ _ s _=>s
def Val.lst:Val→List Val | .mk _ _ _ l=>l
def numV' (n:Int):Val:=.mk 1 n [] []
def truV (b:Bool):Val:=.mk 2 (if b then 1 else 0) [] []
def actV (n:Int):Val:=.mk 5 n [] []
def zeroV:Val:=.mk 0 0 [] []
mutual
def eqVb:Val→Val→Bool
 | .mk k n s l,.mk k2 n2 s2 l2=>decide (k=k2) && decide (n=n2) && decide (s=s2) && eqVsb l l2
def eqVsb:List Val→List Val→Bool
 | [],[]=>true
 | a :: l,b :: m=>eqVb a b && eqVsb l m
 | _,_=>false
end
mutual
def okVb:Nat→Val→Bool
 | lv,.mk k n s l=>decide (0<lv) && (
  if k=1 then decide (-9223372036854775808≤n) && decide (n<9223372036854775808) && s.isEmpty && l.isEmpty
  else if k=2 then (decide (n=0) || decide (n=1)) && s.isEmpty && l.isEmpty
  else if k=3 then decide (n=0) && decide (s.length≤4096) && l.isEmpty
  else if k=4 then decide (n=0) && s.isEmpty && okVsb (lv - 1) l
  else if k=5 then decide (0≤n) && decide (n<9223372036854775808) && s.isEmpty && l.isEmpty
  else false)
def okVsb:Nat→List Val→Bool
 | _,[]=>true
 | lv,a :: l=>okVb lv a && okVsb lv l
end
def rightB (v:Val):Bool:=okVb 16 v && decide (pcs v≤256)
def soundV (v:Val):Val×Int:=if rightB v then (v,0) else (zeroV,5)
def lenVal:Val→Option Nat
 | .mk k _ s l=>if k=3 then some s.length else if k=4 then some l.length else none
def fit (e:Int):Int×Int:=if e < -9223372036854775808∨9223372036854775807<e then (0,4) else (e,0)
def arithT (o a b:Int):Int×Int:=
 if o=4 then fit (a+b) else if o=5 then fit (a - b) else if o=6 then fit (a * b) else if b=0 then (0,3) else if o=7 then fit (a.tdiv b) else (a.tmod b,0)
def ordV (a b:Val):Int:=
 if a.kind=1 then (if a.num<b.num then -1 else if b.num<a.num then 1 else 0) else cmpInt a.txt b.txt
def atV (a b:Val):Val×Int:=
 match lenVal a with
 | none=>(zeroV,1)
 | some n=>if b.kind≠1 then (zeroV,1) else if b.num<0∨(n:Int)≤b.num then (zeroV,2) else
  if a.kind=4 then ((a.lst[b.num.toNat]?).getD zeroV,0) else (numV' (((a.txt[b.num.toNat]?).getD 0).toNat:Int),0)
def twoV (o:Int) (a b:Val):Val×Int:=
 if o=11 then (truV (eqVb a b),0)
 else if o=12 then (truV (!eqVb a b),0)
 else if 13≤o∧o≤16 then
  (if (a.kind=1∧b.kind=1)∨(a.kind=3∧b.kind=3) then
   (truV (if o=13 then decide (ordV a b<0) else if o=14 then decide (ordV a b≤0) else if o=15 then decide (0<ordV a b) else decide (0≤ordV a b)),0)
  else (zeroV,1))
 else if o=17 then
  (if a.kind=3∧b.kind=3 then soundV (.mk 3 0 (a.txt++b.txt) [])
  else if a.kind=4∧b.kind=4 then soundV (.mk 4 0 [] (a.lst++b.lst)) else (zeroV,1))
 else if o=18 then atV a b
 else if a.kind=1∧b.kind=1 then (numV' (arithT o a.num b.num).1,(arithT o a.num b.num).2)
 else (zeroV,1)
def spawns (l:List Eff):Nat:=(l.filter fun e=>decide (0≤e.role)).length
def trapT (T:Trn) (n:Int):Trn:={ T with frames:=[],effs:=[],next:=IntKind.i64.wrap (T.next - spawns T.effs),over:=4,trap:=n }
def endT (T:Trn) (how:Int):Trn:={ T with frames:=[],over:=how }
def putF (f:Frm) (v:Val):Frm:={ f with stack:=f.stack++[v] }
def cutF (f:Frm) (n:Nat):Frm:={ f with stack:=f.stack.take (f.stack.length - n) }
def offF (f:Frm) (n:Nat):List Val:=f.stack.drop (f.stack.length - n)
def withF (T:Trn) (fs:List Frm) (f:Frm):Trn:={ T with frames:=fs++[f] }
def putT (T:Trn) (fs:List Frm) (f:Frm) (v:Val):Trn:=if 200≤f.stack.length then trapT (withF T fs f) 9 else withF T fs (putF f v)
def toldT (T:Trn) (fs:List Frm) (f:Frm) (r:Val×Int):Trn:=if r.2=0 then putT T fs f r.1 else trapT (withF T fs f) r.2
def oneT (T:Trn) (fs:List Frm) (f:Frm) (i:InsA) (v:Val):Trn:=
 if i.op=9 then toldT T fs f (twoV 5 (numV' 0) v)
 else if i.op=19 then (match lenVal v with | none=>trapT (withF T fs f) 1 | some n=>putT T fs f (numV' n))
 else if v.kind≠2 then trapT (withF T fs f) 1
 else if i.op=10 then putT T fs f (truV (!decide (v.num=1)))
 else if i.op=31 then putT T fs f v
 else if i.op=28 then (if v.num=1 then withF T fs f else withF T fs { f with at_:=i.a.toNat })
 else if decide (v.num=1)=decide (i.op=30) then putT T fs { f with at_:=i.a.toNat } v else withF T fs f
def wantsT (M:ModA) (i:InsA):Nat:=
 if i.op=22 then ((M.fns[i.a.toNat]?).map fun f=>f.params.toNat).getD 0
 else if i.op=23∨i.op=25 then ((M.roles[i.a.toNat]?).map fun r=>r.params.toNat).getD 0
 else if i.op=24 then (i.b+1).toNat
 else if i.op=33 then 1 else 0
def framedT (M:ModA) (a:Nat) (l:List Val):Frm:=⟨a,0,l++List.replicate (((M.fns[a]?).map fun f=>f.vars.toNat).getD 0 - l.length) (numV' 0),[]⟩
def actsT (M:ModA) (T:Trn) (fs:List Frm) (f:Frm) (i:InsA) (l:List Val):Trn:=
 if i.op=22 then (if 50≤fs.length+1 then trapT (withF T fs f) 6 else { T with frames:=fs++[f,framedT M i.a.toNat l] })
 else if i.op=33 then (match fs.getLast? with
  | none=>trapT (withF T fs f) 9
  | some g=>putT T fs.dropLast g (l.headD zeroV))
 else if i.op=23 then putT { T with next:=IntKind.i64.wrap (T.next+1),effs:=T.effs++[⟨T.next,i.a,[],l⟩] } fs f (actV T.next)
 else if i.op=24 then (if (l.headD zeroV).kind≠5 then trapT (withF T fs f) 1 else { withF T fs f with effs:=T.effs++[⟨(l.headD zeroV).num,-1,(M.tags[i.a.toNat]?).getD [],l.drop 1⟩] })
 else if i.op=25 then { endT T 3 with role:=i.a,state:=l }
 else if i.op=26 then endT T 2
 else { endT T 1 with state:=f.vars.take (((M.roles[T.role.toNat]?).map fun r=>r.params.toNat).getD 0) }
def doT (M:ModA) (T:Trn) (fs:List Frm) (f:Frm) (i:InsA):Trn:=
 if i.op=1 then putT T fs f ((M.consts[i.a.toNat]?).getD zeroV)
 else if i.op=2 then putT T fs f ((f.vars[i.a.toNat]?).getD zeroV)
 else if i.op=21 then putT T fs f (actV T.self)
 else if i.op=27 then withF T fs { f with at_:=i.a.toNat }
 else
  let n:=if i.op=3∨i.op=32 then 1 else if i.op=20 then i.a.toNat else if (22≤i.op∧i.op≤26)∨i.op=33∨i.op=34 then wantsT M i else if i.op=28∨i.op=29∨i.op=30∨i.op=31∨i.op=10∨i.op=9∨i.op=19 then 1 else 2
  if f.stack.length<n then trapT (withF T fs f) 9
  else
   let l:=offF f n
   let g:=cutF f n
   if i.op=3 then withF T fs { g with vars:=g.vars.set i.a.toNat (l.headD zeroV) }
   else if i.op=32 then withF T fs g
   else if i.op=20 then toldT T fs g (soundV (.mk 4 0 [] l))
   else if (22≤i.op∧i.op≤26)∨i.op=33∨i.op=34 then actsT M T fs g i l
   else if i.op=28∨i.op=29∨i.op=30∨i.op=31∨i.op=10∨i.op=9∨i.op=19 then oneT T fs g i (l.headD zeroV)
   else toldT T fs g (twoV i.op (l.headD zeroV) ((l.drop 1).headD zeroV))
def stepT (M:ModA) (T:Trn):Trn:=
 match T.frames.getLast? with
 | none=>T
 | some f=>match (M.fns[f.fn]?).bind fun fn=>fn.code[f.at_]? with
  | none=>T
  | some i=>doT M { T with used:=IntKind.i64.wrap (T.used+1) } T.frames.dropLast { f with at_:=f.at_+1 } i
def runT (M:ModA):Nat→Trn→Trn
 | 0,T=>if T.over=0 then trapT T 8 else T
 | n+1,T=>if T.over=0 then runT M n (stepT M T) else T
end Am
namespace Am
open Go
structure MC where
 m0:V
 m1:V
 m2:V
 m3:V
 fr:V
 ef:V
 st:V
 fp:V
 lf:List (List V)
 le:List (List V)
 ls:List (List V)
def MC.cells (c:MC) (T:Trn):List V:=[c.m0,c.m1,c.m2,c.m3,c.fr,c.ef,.int .i64 T.self,.int .i64 T.next,.int .i64 T.used,.int .u8 T.over,.int .i64 T.trap,.int .i64 T.role,c.st,c.fp]
structure Mac (hb:Heap) (L:Lab) (h:Heap) (x:Nat) (M:ModA) (T:Trn) (c:MC):Prop where
 e:Ext hb h
 new:hb.n≤x
 old:∀ i,i<hb.n→L i=0
 lx:L x=1
 own:Own h x (c.cells T)
 md:ModR (fun i=>L i=0) h [c.m0,c.m1,c.m2,c.m3] M
 fr:Ow h 4 c.fr c.lf
 frl:∀ i∈slIds c.fr,L i=2
 fs:FrmsR L h c.lf T.frames
 ef:Ow h 4 c.ef c.le
 efl:∀ i∈slIds c.ef,L i=3
 es:All2 (EffR (fun i=>L i=0) h) c.le T.effs
 st:RSz (fun i=>L i=0) h 4 c.st c.ls
 sv:VasR (fun i=>L i=0) h T.state c.ls
 one:c.fp.one=true
def LabE (L:Lab) (h:Heap) (L':Lab):Prop:=∀ i,i<h.n→L' i=L i
theorem LabE.refl (L:Lab) (h:Heap):LabE L h L:=fun _ _=>rfl
theorem LabE.trans {L L' L2:Lab} {h h':Heap} (a:LabE L h L') (b:LabE L' h' L2) (hn:h.n≤h'.n):LabE L h L2:=fun i hi=>by rw [b i (by omega),a i hi]
def labN (L:Lab) (h:Heap) (l:List Nat) (k:Nat):Lab:=fun i=>if i<h.n then L i else if i∈l then k else 0
theorem labN_old {L:Lab} {h:Heap} {l:List Nat} {k:Nat} : LabE L h (labN L h l k):=fun i hi=>by simp only [labN,if_pos hi]
theorem labN_mem {L:Lab} {h:Heap} {l:List Nat} {k:Nat} {i:Nat} (h1:i∈l) (h2:h.n≤i∨L i=k):labN L h l k i=k:=by
 unfold labN
 by_cases hi:i<h.n
 ·rw [if_pos hi];rcases h2 with h2 | h2
  ·omega
  ·exact h2
 ·rw [if_neg hi,if_pos h1]
theorem FrmsR.ext {L L':Lab} {S:List Nat} {h h':Heap} {lc:List (List V)} {fs:List Frm} (r:FrmsR L h lc fs) (hE:ExtX S h h') (hs:∀ j∈S,L j=1∨L j=2∨L j=3) (hL:LabE L h L'):FrmsR L' h' lc fs:=
 ⟨r.1,fun i c f hc hf=>(r.2 i c f hc hf).ext hE (fun j hj=>by have:=hs j hj;omega) hL⟩
theorem FrmsR.set {L L':Lab} {S:List Nat} {h h':Heap} {lc:List (List V)} {fs:List Frm} {k:Nat} {c':List V} {f':Frm} (r:FrmsR L h lc fs) (hE:ExtX S h h') (hs:∀ j∈S,L j=1∨L j=2∨L j=3∨L j=2 * k+4∨L j=2 * k+5) (hL:LabE L h L') (hk:FrmR L' h' k c' f'):FrmsR L' h' (lc.set k c') (fs.set k f'):=by
 refine ⟨by rw [List.length_set,List.length_set];exact r.1,fun i c f hc hf=>?_⟩
 by_cases hi:i=k
 ·subst hi
  rw [List.getElem?_set] at hc hf
  by_cases hlt:i<lc.length
  ·rw [if_pos rfl,if_pos hlt] at hc
   rw [if_pos rfl,if_pos (by rw [← r.1];exact hlt)] at hf
   cases hc;cases hf
   exact hk
  ·rw [if_pos rfl,if_neg hlt] at hc;cases hc
 ·rw [List.getElem?_set_ne (Ne.symm hi)] at hc hf
  exact (r.2 i c f hc hf).ext hE (fun j hj=>by have:=hs j hj;omega) hL
theorem FrmsR.nil (L:Lab) (h:Heap):FrmsR L h [] []:=⟨rfl,by simp⟩
theorem FrmsR.get {L:Lab} {h:Heap} {lc:List (List V)} {fs:List Frm} (r:FrmsR L h lc fs) {k:Nat} {f:Frm} (hf:fs[k]? = some f):∃ c,lc[k]? = some c∧FrmR L h k c f:=by
 have hk:k<fs.length:=by
  rcases Nat.lt_or_ge k fs.length with h | h
  ·exact h
  ·rw [List.getElem?_eq_none h] at hf;cases hf
 have hk2:k<lc.length:=by rw [r.1];exact hk
 exact ⟨lc[k],List.getElem?_eq_getElem hk2,r.2 k _ f (List.getElem?_eq_getElem hk2) hf⟩
section parts
variable {hb h h':Heap} {L L':Lab} {x:Nat} {M:ModA} {T:Trn} {c:MC} {S:List Nat}
theorem Mac.md' (m:Mac hb L h x M T c) (hE:ExtX S h h') (hs:∀ j∈S,L j≠0) (hL:LabE L h L'):ModR (fun i=>L' i=0) h' [c.m0,c.m1,c.m2,c.m3] M:=
 m.md.ext hE (fun j hj hm=>hs j hm hj) fun j hj hl=>by rw [hL j hl];exact hj
theorem Mac.es' (m:Mac hb L h x M T c) (hE:ExtX S h h') (hs:∀ j∈S,L j≠0) (hL:LabE L h L'):All2 (EffR (fun i=>L' i=0) h') c.le T.effs:=
 m.es.mono fun _ _ _ _ k=>k.ext hE (fun j hj hm=>hs j hm hj) fun j hj hl=>by rw [hL j hl];exact hj
theorem Mac.st' (m:Mac hb L h x M T c) (hE:ExtX S h h') (hs:∀ j∈S,L j≠0) (hL:LabE L h L'):RSz (fun i=>L' i=0) h' 4 c.st c.ls:=
 m.st.extL hE (fun j hj hm=>hs j hm hj) fun j hj hl=>by rw [hL j hl];exact hj
theorem Mac.sv' (m:Mac hb L h x M T c) (hE:ExtX S h h') (hs:∀ j∈S,L j≠0) (hL:LabE L h L'):VasR (fun i=>L' i=0) h' T.state c.ls:=
 m.sv.ext hE (fun j hj hm=>hs j hm hj) fun j hj hl=>by rw [hL j hl];exact hj
theorem Mac.e' (m:Mac hb L h x M T c) (hE:ExtX S h h') (hs:∀ j∈S,L j≠0):Ext hb h':=m.e.step hE fun j hj=>.inr (by
 rcases Nat.lt_or_ge j hb.n with q | q
 ·exact absurd (m.old j q) (hs j hj)
 ·exact q)
theorem Mac.frl' (m:Mac hb L h x M T c) (hL:LabE L h L'):∀ i∈slIds c.fr,L' i=2:=fun i hi=>by rw [hL i (m.fr.rs.lt i hi)];exact m.frl i hi
theorem Mac.efl' (m:Mac hb L h x M T c) (hL:LabE L h L'):∀ i∈slIds c.ef,L' i=3:=fun i hi=>by rw [hL i (m.ef.rs.lt i hi)];exact m.efl i hi
theorem Mac.lx' (m:Mac hb L h x M T c) (hL:LabE L h L'):L' x=1:=by rw [hL x m.own.1];exact m.lx
theorem Mac.old' (m:Mac hb L h x M T c) (hL:LabE L h L'):∀ i,i<hb.n→L' i=0:=fun i hi=>by rw [hL i (by have:=m.e.1;omega)];exact m.old i hi
theorem Mac.setF (m:Mac hb L h x M T c) {k:Nat} {c':List V} {f':Frm} (hE:ExtX S h h') (hs:∀ j∈S,L j=2∨L j=2 * k+4∨L j=2 * k+5) (hL:LabE L h L') (hF:Ow h' 4 c.fr (c.lf.set k c')) (hk:FrmR L' h' k c' f'):Mac hb L' h' x M { T with frames:=T.frames.set k f' } { c with lf:=c.lf.set k c' }:=by
 have h0:∀ j∈S,L j≠0:=fun j hj=>by have:=hs j hj;omega
 refine ⟨m.e' hE h0,m.new,m.old' hL,m.lx' hL,m.own.ext hE fun hx=>by have:=hs x hx;have:=m.lx;omega,m.md' hE h0 hL,hF,m.frl' hL,m.fs.set hE (fun j hj=>by have:=hs j hj;omega) hL hk,m.ef.ext hE fun j hj hm=>by have:=hs j hm;have:=m.efl j hj;omega,m.efl' hL,m.es' hE h0 hL,m.st' hE h0 hL,m.sv' hE h0 hL,m.one⟩
end parts
section ends
variable {hb h h':Heap} {L L':Lab} {x:Nat} {M:ModA} {T:Trn} {c:MC} {S:List Nat}
theorem set_top {fs:List Frm} {f g:Frm} : (fs++[f]).set fs.length g=fs++[g]:=by
 rw [List.set_append]
 simp
end ends
theorem Mac.vars {hb h h':Heap} {L:Lab} {x:Nat} {M:ModA} {T:Trn} {c:MC} (m:Mac hb L h x M T c) {fs:List Frm} {f:Frm} (hT:T.frames=fs++[f]) {vv stk:V} {lv ls:List (List V)} {a:Nat} {v:Val} {cv:List V} (hk:fs.length<c.lf.length) (hck:c.lf[fs.length]=[.int .i64 (.ofNat f.fn),.int .i64 (.ofNat f.at_),vv,stk]) (ho:Ow h 4 vv lv) (hvv:VasR (fun i=>L i=0) h f.vars lv) (hS:Ow h 4 stk ls) (hl:VasR (fun i=>L i=0) h f.stack ls) (hvl:∀ i∈slIds vv,L i=2 * fs.length+4) (hkl:∀ i∈slIds stk,L i=2 * fs.length+5) (hv:VaR (fun i=>L i=0) h v cv) (hE:ExtX (slIds vv) h h') (hV:Ow h' 4 vv (lv.set a cv)) :
  Mac hb (labN L h [] 0) h' x M (withF T fs { f with vars:=f.vars.set a v }) c:=by
 have hL:LabE L h (labN L h [] 0):=labN_old
 have h0:∀ j∈slIds vv,L j≠0:=fun j hj=>by have:=hvl j hj;omega
 have hz:∀ j,L j=0→j∉slIds vv:=fun j hj hm=>h0 j hm hj
 have hZ:∀ j,L j=0→j<h.n→labN L h [] 0 j=0:=fun j hj hl=>by rw [hL j hl];exact hj
 have hlf:c.lf.set fs.length [.int .i64 (.ofNat f.fn),.int .i64 (.ofNat f.at_),vv,stk]=c.lf:=by rw [← hck];exact List.set_getElem_self hk
 have hF:Ow h' 4 c.fr (c.lf.set fs.length [.int .i64 (.ofNat f.fn),.int .i64 (.ofNat f.at_),vv,stk]):=by
  rw [hlf]
  exact m.fr.ext hE fun j hj hm=>by have:=m.frl j hj;have:=hvl j hm;omega
 have:=m.setF (k:=fs.length) (f':={ f with vars:=f.vars.set a v }) hE (fun j hj=>.inr (.inl (hvl j hj))) hL hF ⟨vv,stk,lv.set a cv,ls,rfl,hV,(hvv.ext hE hz hZ).set (hv.ext hE hz hZ) a,hS.ext hE (fun j hj hm=>by have:=hvl j hm;have:=hkl j hj;omega),hl.ext hE hz hZ,fun i hi=>by rw [hL i (ho.rs.lt i hi)];exact hvl i hi,fun i hi=>by rw [hL i (hS.rs.lt i hi)];exact hkl i hi⟩
 rw [hT,set_top,hlf] at this
 exact this
def Keep (L:Lab) (h h':Heap):Prop:=∃ S,ExtX S h h'∧∀ j∈S,L j≠0
theorem Keep.n {L:Lab} {h h':Heap} (k:Keep L h h'):h.n≤h'.n:=by obtain ⟨S,e,_⟩:=k;exact e.1
theorem Keep.of {S:List Nat} {L:Lab} {h h':Heap} (e:ExtX S h h') (hs:∀ j∈S,L j≠0):Keep L h h':=⟨S,e,hs⟩
theorem Keep.ext0 {L:Lab} {h h':Heap} (e:Ext h h'):Keep L h h':=⟨[],e,by simp⟩
theorem Keep.refl (L:Lab) (h:Heap):Keep L h h:=Keep.ext0 (ExtX.refl _ _)
theorem Keep.trans {L L1:Lab} {h h1 h2:Heap} (a:Keep L h h1) (l:LabE L h L1) (b:Keep L1 h1 h2):Keep L h h2:=by
 obtain ⟨S,e,s⟩:=a
 obtain ⟨S',e',s'⟩:=b
 refine ⟨S++S'.filter (fun j=>decide (j<h.n)),(e.mono fun j hj=>by simp [hj]).step e' fun j hj=>?_,fun j hj=>?_⟩
 ·by_cases hn:j<h.n
  ·exact .inl (by simp [hj,hn])
  ·exact .inr (by omega)
 ·rcases List.mem_append.1 hj with hj | hj
  ·exact s j hj
  ·simp only [List.mem_filter,decide_eq_true_eq] at hj
   have:=s' j hj.1
   rwa [l j hj.2] at this
theorem Keep.own {L:Lab} {h h':Heap} {i:Nat} {cs:List V} (k:Keep L h h') (o:Own h i cs) (hl:L i=0):Own h' i cs:=by
 obtain ⟨S,e,s⟩:=k
 exact o.ext e fun hm=>s i hm hl
theorem Mac.push {hb h h1 h':Heap} {L:Lab} {x:Nat} {M:ModA} {T:Trn} {c:MC} (m:Mac hb L h x M T c) {fr' vv:V} {lv:List (List V)} {g:Frm} (hV:Ow h 4 vv lv) (hvs:VasR (fun i=>L i=0) h g.vars lv) (hst:g.stack=[]) (hF:Fr h c.fr h1 fr') (hO:Ow h1 4 fr' (c.lf++[[.int .i64 (.ofNat g.fn),.int .i64 (.ofNat g.at_),vv,.nils]])) (hvl:∀ i∈slIds vv,L i=2 * T.frames.length+4) (hE:ExtX [x] h1 h') (own:Own h' x [c.m0,c.m1,c.m2,c.m3,fr',c.ef,.int .i64 T.self,.int .i64 T.next,.int .i64 T.used,.int .u8 T.over,.int .i64 T.trap,.int .i64 T.role,c.st,c.fp]) :
  Mac hb (labN L h (slIds fr') 2) h' x M { T with frames:=T.frames++[g] } { c with fr:=fr',lf:=c.lf++[[.int .i64 (.ofNat g.fn),.int .i64 (.ofNat g.at_),vv,.nils]] }∧Keep L h h':=by
 have hL:LabE L h (labN L h (slIds fr') 2):=labN_old
 have hX:ExtX (slIds c.fr++[x]) h h':=(hF.1.mono fun j hj=>by simp [hj]).step hE fun j hj=>.inl (by simp at hj;simp [hj])
 have h12:∀ j∈slIds c.fr++[x],L j=1∨L j=2:=fun j hj=>by
  rcases List.mem_append.1 hj with hj | hj
  ·exact .inr (m.frl j hj)
  ·simp at hj;subst hj;exact .inl m.lx
 have h0:∀ j∈slIds c.fr++[x],L j≠0:=fun j hj=>by have:=h12 j hj;omega
 have hxn:x∉slIds fr':=fun hm=>by
  rcases hF.2 x hm with q | q
  ·have:=m.frl x q;have:=m.lx;omega
  ·have:=m.own.1;omega
 have hll:=m.fs.1
 refine ⟨⟨m.e' hX h0,m.new,m.old' hL,m.lx' hL,own,m.md' hX h0 hL,hO.ext hE fun j hj hm=>by simp at hm;subst hm;exact hxn hj,fun i hi=>labN_mem hi ?_,⟨by simp [hll],fun i cc f hc hf=>?_⟩,m.ef.ext hX fun j hj hm=>?_,m.efl' hL,m.es' hX h0 hL,m.st' hX h0 hL,m.sv' hX h0 hL,m.one⟩,Keep.of hX h0⟩
 ·rcases hF.2 i hi with q | q
  ·exact .inr (m.frl i q)
  ·exact .inl q
 ·by_cases hi:i<c.lf.length
  ·have hc2:c.lf[i]? = some cc:=by rw [← hc];exact (List.getElem?_append_left hi).symm
   have hf2:T.frames[i]? = some f:=by rw [← hf];exact (List.getElem?_append_left (by omega)).symm
   exact (m.fs.2 i cc f hc2 hf2).ext hX (fun j hj=>by have:=h12 j hj;omega) hL
  ·have hi2:i=c.lf.length:=by
    have:i<(c.lf++[[V.int .i64 (.ofNat g.fn),.int .i64 (.ofNat g.at_),vv,.nils]]).length:=(List.getElem?_eq_some_iff.1 hc).1
    simp at this
    omega
   subst hi2
   rw [List.getElem?_append_right (by omega)] at hc hf
   rw [hll] at hc hf
   simp at hc hf
   subst hc hf
   refine ⟨vv,.nils,lv,[],rfl,hV.ext hX fun j hj hm=>by have:=hvl j hj;have:=h12 j hm;omega,hvs.ext hX (fun j hj hm=>h0 j hm hj) fun j hj hl=>by rw [hL j hl];exact hj,Ow.nils _ _,by rw [hst];exact VasR.nil _ _,fun j hj=>by rw [hL j (hV.rs.lt j hj),hll];exact hvl j hj,by simp [slIds]⟩
 ·have:=m.efl j hj;have:=h12 j hm;omega
end Am
namespace Am
open Go
variable {T:Nat→Option AFunc} {O:CallF} {vs ls:List V} {h:Heap} {Q:List V→Heap→Prop} {os:List AOp}
def mE (kk:IntKind) (l:List (Int×V)):List (V×V):=l.map fun p=>(.int kk p.1,p.2)
def putI (k:Int) (v:V):List (Int×V)→List (Int×V)
 | []=>[(k,v)]
 | (a,u) :: l=>if k=a then (k,v) :: l else (a,u) :: putI k v l
def getI (k:Int):List (Int×V)→Option V
 | []=>none
 | (a,u) :: l=>if k=a then some u else getI k l
theorem findE_mE {kk:IntKind} {k:Int} : ∀ {l:List (Int×V)},findE (.int kk k) (mE kk l)=some (getI k l)
 | []=>rfl
 | (a,u) :: l=>by
  have e:eqScalar (.int kk k) (.int kk a)=some (k == a):=by simp [eqScalar]
  by_cases h:k=a
  ·have e1:(k == a)=true:=by simp [h]
   rw [e1] at e
   simp only [mE,List.map_cons,findE,e,getI,if_pos h]
  ·have e1:(k == a)=false:=by simp [h]
   rw [e1] at e
   simp only [mE,List.map_cons,findE,e,getI,if_neg h]
   exact findE_mE
theorem putE_mE {kk:IntKind} {k:Int} {v:V} : ∀ {l:List (Int×V)},putE (.int kk k) v (mE kk l)=some (mE kk (putI k v l))
 | []=>rfl
 | (a,u) :: l=>by
  have e:eqScalar (.int kk k) (.int kk a)=some (k == a):=by simp [eqScalar]
  by_cases h:k=a
  ·have e1:(k == a)=true:=by simp [h]
   rw [e1] at e
   simp only [mE,List.map_cons,putE,e,putI,if_pos h]
  ·have e1:(k == a)=false:=by simp [h]
   rw [e1] at e
   have:=putE_mE (kk:=kk) (k:=k) (v:=v) (l:=l)
   unfold mE at this
   simp only [mE,List.map_cons,putE,e,putI,if_neg h,this]
def OwM (h:Heap) (id:Nat) (kk:IntKind) (l:List (Int×V)):Prop:=id<h.n∧h.get id=some (.map (mE kk l))
theorem OwM.ext {S:List Nat} {h h':Heap} {id:Nat} {kk:IntKind} {l:List (Int×V)} (k:OwM h id kk l) (hE:ExtX S h h') (hs:id∉S):OwM h' id kk l:=
 ⟨Nat.lt_of_lt_of_le k.1 hE.1,by rw [hE.2 id k.1 hs];exact k.2⟩
theorem OwM.ext0 {h h':Heap} {id:Nat} {kk:IntKind} {l:List (Int×V)} (k:OwM h id kk l) (hE:Ext h h'):OwM h' id kk l:=k.ext hE (by simp)
theorem w_mkI (kk:IntKind) (k1:∀ id h',OwM h' id kk []→h.n≤id→Ext h h'→WPo T O os (.map id :: ls) vs h' Q):WPo T O (⟨none,.mkM⟩ :: os) ls vs h Q:=by
 refine w_op (v:=.map h.n) (h1:=h.alloc (.map [])) rfl (k1 _ _ ⟨Nat.lt_succ_self _,?_⟩ (Nat.le_refl _) ⟨Nat.le_succ _,fun j hj _=>?_⟩)
 ·rw [Heap.get_alloc,if_pos rfl];rfl
 ·rw [Heap.get_alloc,if_neg (by omega)]
theorem w_mputI {m k x:Opd} {kk:IntKind} {id:Nat} {a:Int} {v:V} {l:List (Int×V)} (hm:ev ls vs m=some (.map id)) (hk:ev ls vs k=some (.int kk a)) (hx:ev ls vs x=some v) (ho:OwM h id kk l) (k1:∀ h',OwM h' id kk (putI a v l)→ExtX [id] h h'→h'.n=h.n→WPo T O os (.any :: ls) vs h' Q):WPo T O (⟨none,.mput (.int kk) m k x⟩ :: os) ls vs h Q:=by
 refine w_op (v:=.any) (h1:=h.set id (.map (mE kk (putI a v l)))) ?_ (k1 _ ⟨ho.1,?_⟩ ⟨Nat.le_refl _,fun j hj hs=>?_⟩ rfl)
 ·show o_mput (.int kk) m k x ls vs h=_
  simp only [o_mput,hm,hk,hx,KK.has,beq_self_eq_true,ho.2,putE_mE]
 ·rw [Heap.get_set,if_pos rfl]
 ·rw [Heap.get_set,if_neg (by simpa using hs)]
theorem w_lookI {zero:V} {ok:Bool} {m k:Opd} {kk:IntKind} {id:Nat} {a:Int} {l:List (Int×V)} (hm:ev ls vs m=some (.map id)) (hk:ev ls vs k=some (.int kk a)) (ho:OwM h id kk l) (k1:WPo T O os (lookOut ok ((getI a l).getD zero) (getI a l).isSome :: ls) vs h Q):WPo T O (⟨none,.look (.int kk) zero ok m k⟩ :: os) ls vs h Q:=by
 refine w_op (v:=lookOut ok ((getI a l).getD zero) (getI a l).isSome) (h1:=h) ?_ k1
 show o_look (.int kk) zero ok m k ls vs h=_
 cases e:getI a l with
 | none=>simp only [o_look,hm,hk,lookV,KK.has,beq_self_eq_true,ho.2,findE_mE,e,keep,Option.getD_none,Option.isSome_none]
 | some v=>simp only [o_look,hm,hk,lookV,KK.has,beq_self_eq_true,ho.2,findE_mE,e,keep,Option.getD_some,Option.isSome_some]
end Am
namespace Am
open Go
set_option maxHeartbeats 2000000
def OkW (v:Val):Prop:=cVal.ok v∨∃ n,I64 n∧v=actV n
def isBody (M:ModA) (k:Nat):Bool:=M.roles.any fun r=>r.on.any fun o=>decide (o.fn=(k:Int))
def lim (M:ModA) (F:FnA) (o:Int):Int:=
 if o=1 then M.consts.length else if o=2∨o=3 then F.vars else if o=20 then 256 else if o=22 then M.fns.length else if o=23∨o=25 then M.roles.length
 else if o=24 then M.tags.length else if o=27∨o=28∨o=29∨o=30 then F.code.length else if o<1∨34<o then 0 else 1
def InsOk (M:ModA) (F:FnA) (bd:Bool) (i:InsA):Prop:=
 1≤i.op∧i.op≤34∧0≤i.a∧i.a<lim M F i.op∧0≤i.b∧i.b≤255∧(i.op=22→isBody M i.a.toNat=false)∧(i.op=33→bd=false)∧(i.op=34∨i.op=26∨i.op=25→bd=true)
instance {M:ModA} {F:FnA} {bd:Bool} {i:InsA} : Decidable (InsOk M F bd i):=by unfold InsOk;infer_instance
def isLast (o:Int):Prop:=o=27∨o=33∨o=34∨o=26∨o=25
instance {o:Int} : Decidable (isLast o):=by unfold isLast;infer_instance
def lastOk (l:List InsA):Prop:=match l.getLast? with
 | none=>False
 | some i=>isLast i.op
instance {l:List InsA} : Decidable (lastOk l):=by unfold lastOk;cases l.getLast? <;> infer_instance
def FunOk (M:ModA) (bd:Bool) (F:FnA):Prop:=0≤F.params∧F.params≤F.vars∧F.vars≤30∧F.code.length≤16384∧lastOk F.code∧∀ i∈F.code,InsOk M F bd i
instance {M:ModA} {F:FnA} {bd:Bool} : Decidable (FunOk M bd F):=by unfold FunOk;infer_instance
def OnOk (M:ModA) (r:PartA) (o:OnA):Prop:=0≤o.fn∧o.fn<M.fns.length∧0≤o.params∧o.params≤30∧((M.fns[o.fn.toNat]?).map fun F=>F.params)=some (o.params+r.params)
instance {M:ModA} {r:PartA} {o:OnA} : Decidable (OnOk M r o):=by unfold OnOk;infer_instance
def RoleOk (M:ModA) (r:PartA):Prop:=0≤r.params∧r.params≤30∧(∀ o∈r.on,OnOk M r o)∧r.on.length≤2097152
instance {M:ModA} {r:PartA} : Decidable (RoleOk M r):=by unfold RoleOk;infer_instance
structure ModOk (M:ModA):Prop where
 len:M.consts.length≤4096∧M.tags.length≤4096∧M.fns.length≤4096∧M.roles.length≤4096
 cs:∀ c∈M.consts,cVal.ok c
 rs:∀ r∈M.roles,RoleOk M r
 fs:∀ (k:Nat) (F:FnA),M.fns[k]? = some F→FunOk M (isBody M k) F
 nd:∀ (p q:Nat) (r r':PartA) (o o':OnA),M.roles[p]? = some r→M.roles[q]? = some r'→o∈r.on→o'∈r'.on→o.fn=o'.fn→p=q
structure FrmB (M:ModA) (f:Frm) (F:FnA):Prop where
 hF:M.fns[f.fn]? = some F
 vl:(f.vars.length:Int)=F.vars
 st:f.stack.length≤200
 vs:∀ v∈f.vars,OkW v
 ss:∀ v∈f.stack,OkW v
def FrmOk (M:ModA) (f:Frm):Prop:=∃ F,FrmB M f F∧f.at_<F.code.length
def BdOk (M:ModA) (role:Int) (l:List Nat):Prop:=∃ k rest p,l=k :: rest∧0≤role∧M.roles[role.toNat]? = some p∧(∃ o∈p.on,o.fn=(k:Int))∧∀ j∈rest,isBody M j=false
structure TrnOk (M:ModA) (T:Trn):Prop where
 fs:∀ f∈T.frames,FrmOk M f
 len:T.frames.length≤50
 bd:BdOk M T.role (T.frames.map fun f=>f.fn)
 sl:((M.roles[T.role.toNat]?).map fun p=>p.params)=some (T.state.length:Int)
 sv:∀ v∈T.state,OkW v
 nx:I64 T.next
 us:I64 T.used
 se:I64 T.self
 ef:∀ e∈T.effs,e.args.length≤1000∧∀ v∈e.args,OkW v
mutual
theorem okV.mono:∀ {lv lv':Nat} {a:Val},lv≤lv'→okV lv a→okV lv' a
 | lv,lv',.mk k n s l,hl,h=>by
  unfold okV at h ⊢
  refine ⟨by omega,?_⟩
  rcases h.2 with h | h | h | ⟨h1,h2,h3,h4⟩ | h
  ·exact .inl h
  ·exact .inr (.inl h)
  ·exact .inr (.inr (.inl h))
  ·exact .inr (.inr (.inr (.inl ⟨h1,h2,h3,okVs.mono (by omega) h4⟩)))
  ·exact .inr (.inr (.inr (.inr h)))
theorem okVs.mono:∀ {lv lv':Nat} {l:List Val},lv≤lv'→okVs lv l→okVs lv' l
 | lv,lv',[],_,_=>by unfold okVs;trivial
 | lv,lv',a :: l,hl,h=>by
  unfold okVs at h ⊢
  exact ⟨okV.mono hl h.1,okVs.mono hl h.2⟩
end
theorem OkW.i64 {v:Val} (h:OkW v):I64 v.num:=by
 rcases h with h | ⟨n,h,rfl⟩
 ·obtain ⟨k,n,s,l⟩:=v
  have h1:=h.1
  unfold okV at h1
  show I64 n
  unfold I64
  rcases h1.2 with h | h | h | h | h <;> omega
 ·exact h
theorem OkW.len {v:Val} {n:Nat} (h:OkW v) (hn:lenVal v=some n):n≤4096:=by
 rcases h with h | ⟨m,h,rfl⟩
 ·obtain ⟨k,m,s,l⟩:=v
  have h1:=h.1
  have h2:=h.2
  unfold okV at h1
  unfold pcs at h2
  replace hn:(if k=3 then some s.length else if k=4 then some l.length else none)=some n:=hn
  have:=pcss_len l
  by_cases h3:k=3
  ·rw [if_pos h3] at hn
   cases hn
   rcases h1.2 with h | h | h | h | h <;> omega
  ·rw [if_neg h3] at hn
   by_cases h4:k=4
   ·rw [if_pos h4] at hn
    cases hn
    omega
   ·rw [if_neg h4] at hn
    cases hn
 ·exact absurd (show (none:Option Nat)=some n from hn) (by simp)
section step
variable {M:ModA} {T:Trn} {fs:List Frm} {f g:Frm} {F:FnA} {v:Val}
theorem lastOk_pos {l:List InsA} (h:lastOk l):0<l.length:=by
 unfold lastOk at h
 cases l with
 | nil=>simp at h
 | cons a l=>simp
theorem TrnOk.call (h:TrnOk M (withF T fs f)) {x:Frm} (hx:FrmOk M x) (hb:isBody M x.fn=false) (hl:¬ 50≤fs.length+1):TrnOk M { T with frames:=fs++[f,x] }:=by
 refine ⟨fun y hy=>?_,by simp;omega,?_,h.sl,h.sv,h.nx,h.us,h.se,h.ef⟩
 ·have hy2:y∈(fs++[f])++[x]:=by simpa using hy
  rcases List.mem_append.1 hy2 with hy | hy
  ·exact h.fs y hy
  ·rw [List.mem_singleton.1 hy];exact hx
 ·obtain ⟨k,rest,p,e,h1,h2,h3,h4⟩:=h.bd
  refine ⟨k,rest++[x.fn],p,?_,h1,h2,h3,fun j hj=>?_⟩
  ·have e':(fs++[f]).map (fun f=>f.fn)=k :: rest:=e
   show (fs++[f,x]).map (fun f=>f.fn)=_
   rw [show fs++[f,x]=(fs++[f])++[x] by simp,List.map_append,e']
   rfl
  ·rcases List.mem_append.1 hj with hj | hj
   ·exact h4 j hj
   ·rw [List.mem_singleton.1 hj];exact hb
theorem TrnOk.ret (h:TrnOk M (withF T fs f)) (hg:fs.getLast? = some g):TrnOk M (withF T fs.dropLast g):=by
 have hne:fs≠[]:=by intro e;rw [e] at hg;cases hg
 have e:fs.dropLast++[g]=fs:=by
  have:=List.dropLast_concat_getLast hne
  rw [List.getLast?_eq_some_getLast hne] at hg
  cases hg
  exact this
 refine ⟨fun y hy=>?_,?_,?_,h.sl,h.sv,h.nx,h.us,h.se,h.ef⟩
 ·have hy2:y∈fs:=by rw [← e];exact hy
  exact h.fs y (List.mem_append.2 (.inl hy2))
 ·have:=h.len
  show (fs.dropLast++[g]).length≤50
  rw [e]
  have h3:(fs++[f]).length≤50:=this
  simp at h3
  omega
 ·obtain ⟨k,rest,p,e2,h1,h2,h3,h4⟩:=h.bd
  have e3:(fs++[f]).map (fun f=>f.fn)=k :: rest:=e2
  cases fs with
  | nil=>exact absurd rfl hne
  | cons a l=>
   rw [List.map_append] at e3
   simp only [List.map_cons,List.cons_append,List.cons.injEq] at e3
   refine ⟨k,l.map (fun f=>f.fn),p,?_,h1,h2,h3,fun j hj=>h4 j ?_⟩
   ·show ((a :: l).dropLast++[g]).map (fun f=>f.fn)=_
    rw [e,List.map_cons,e3.1]
   ·rw [← e3.2]
    exact List.mem_append.2 (.inl hj)
end step
theorem RngVl.of:∀ {l:List Val},(∀ a∈l,RngV a)→RngVl l
 | [],_=>by unfold RngVl;trivial
 | a :: l,h=>by
  unfold RngVl
  exact ⟨h a (List.mem_cons_self ..),RngVl.of fun b hb=>h b (List.mem_cons_of_mem _ hb)⟩
end Am
namespace Am
open Go
variable {T:Nat→Option AFunc} {O:CallF} {vs ls:List V} {h:Heap} {Q:List V→Heap→Prop} {os:List AOp}
def one1:V:=.int .i64 1
def onesI (fs:List Int):List (Int×V):=fs.map fun k=>(k,one1)
theorem getI_ones {k:Int} : ∀ {fs:List Int},getI k (onesI fs)=if k∈fs then some one1 else none
 | []=>rfl
 | a :: l=>by
  show (if k=a then some one1 else getI k (onesI l))=_
  by_cases e:k=a
  ·rw [if_pos e,if_pos (by simp [e])]
  ·rw [if_neg e,getI_ones]
   by_cases e2:k∈l
   ·rw [if_pos e2,if_pos (List.mem_cons_of_mem _ e2)]
   ·rw [if_neg e2,if_neg (by simp [e,e2])]
theorem putI_ones {k:Int} : ∀ {fs:List Int},k∉fs→putI k one1 (onesI fs)=onesI (fs++[k])
 | [],_=>rfl
 | a :: l,h=>by
  have h1:¬ k=a:=fun e=>h (by simp [e])
  show (if k=a then _ else (a,one1) :: putI k one1 (onesI l))=_
  rw [if_neg h1,putI_ones fun e=>h (List.mem_cons_of_mem _ e)]
  rfl
def mS (ts:List (List UInt8)):List (V×V):=ts.map fun t=>(.str t,one1)
theorem eqBytes_iff' {a b:List UInt8} : eqBytes a b=decide (a=b):=by
 cases h:eqBytes a b with
 | true=>rw [eqBytes_iff] at h;simp [h]
 | false=>
  have:¬ a=b:=fun e=>by rw [← eqBytes_iff,h] at e;cases e
  simp [this]
theorem findE_mS {t:List UInt8} : ∀ {ts:List (List UInt8)},findE (.str t) (mS ts)=some (if t∈ts then some one1 else none)
 | []=>rfl
 | a :: l=>by
  have e:eqScalar (.str t) (.str a)=some (decide (t=a)):=by show some (eqBytes t a)=_;rw [eqBytes_iff']
  by_cases h:t=a
  ·rw [decide_eq_true h] at e
   simp only [mS,List.map_cons,findE,e]
   rw [if_pos (by simp [h])]
  ·rw [decide_eq_false h] at e
   have:=findE_mS (t:=t) (ts:=l)
   unfold mS at this
   simp only [mS,List.map_cons,findE,e,this]
   by_cases e2:t∈l
   ·rw [if_pos e2,if_pos (List.mem_cons_of_mem _ e2)]
   ·rw [if_neg e2,if_neg (by simp [h,e2])]
theorem putE_mS {t:List UInt8} : ∀ {ts:List (List UInt8)},t∉ts→putE (.str t) one1 (mS ts)=some (mS (ts++[t]))
 | [],_=>rfl
 | a :: l,h=>by
  have h1:¬ t=a:=fun e=>h (by simp [e])
  have e:eqScalar (.str t) (.str a)=some false:=by show some (eqBytes t a)=_;rw [eqBytes_iff',decide_eq_false h1]
  have:=putE_mS (t:=t) (ts:=l) fun e=>h (List.mem_cons_of_mem _ e)
  unfold mS at this ⊢
  simp only [List.map_cons,putE,e,this,List.cons_append]
def OwS (h:Heap) (id:Nat) (ts:List (List UInt8)):Prop:=id<h.n∧h.get id=some (.map (mS ts))
theorem OwS.ext {S:List Nat} {h h':Heap} {id:Nat} {ts:List (List UInt8)} (k:OwS h id ts) (hE:ExtX S h h') (hs:id∉S):OwS h' id ts:=
 ⟨Nat.lt_of_lt_of_le k.1 hE.1,by rw [hE.2 id k.1 hs];exact k.2⟩
theorem OwS.ext0 {h h':Heap} {id:Nat} {ts:List (List UInt8)} (k:OwS h id ts) (hE:Ext h h'):OwS h' id ts:=k.ext hE (by simp)
theorem w_mkSt (k1:∀ id h',OwS h' id []→h.n≤id→Ext h h'→WPo T O os (.map id :: ls) vs h' Q):WPo T O (⟨none,.mkM⟩ :: os) ls vs h Q:=by
 refine w_op (v:=.map h.n) (h1:=h.alloc (.map [])) rfl (k1 _ _ ⟨Nat.lt_succ_self _,?_⟩ (Nat.le_refl _) ⟨Nat.le_succ _,fun j hj _=>?_⟩)
 ·rw [Heap.get_alloc,if_pos rfl];rfl
 ·rw [Heap.get_alloc,if_neg (by omega)]
theorem w_mputSt {m k x:Opd} {id:Nat} {t:List UInt8} {l:List (List UInt8)} (hm:ev ls vs m=some (.map id)) (hk:ev ls vs k=some (.str t)) (hx:ev ls vs x=some one1) (ho:OwS h id l) (hn:t∉l) (k1:∀ h',OwS h' id (l++[t])→ExtX [id] h h'→h'.n=h.n→WPo T O os (.any :: ls) vs h' Q):WPo T O (⟨none,.mput .str m k x⟩ :: os) ls vs h Q:=by
 refine w_op (v:=.any) (h1:=h.set id (.map (mS (l++[t])))) ?_ (k1 _ ⟨ho.1,?_⟩ ⟨Nat.le_refl _,fun j hj hs=>?_⟩ rfl)
 ·show o_mput .str m k x ls vs h=_
  simp only [o_mput,hm,hk,hx,KK.has,ho.2,putE_mS hn]
 ·rw [Heap.get_set,if_pos rfl]
 ·rw [Heap.get_set,if_neg (by simpa using hs)]
theorem w_lookSt {zero:V} {ok:Bool} {m k:Opd} {id:Nat} {t:List UInt8} {l:List (List UInt8)} (hm:ev ls vs m=some (.map id)) (hk:ev ls vs k=some (.str t)) (ho:OwS h id l) (k1:WPo T O os (lookOut ok (if t∈l then one1 else zero) (decide (t∈l)) :: ls) vs h Q):WPo T O (⟨none,.look .str zero ok m k⟩ :: os) ls vs h Q:=by
 refine w_op (v:=lookOut ok (if t∈l then one1 else zero) (decide (t∈l))) (h1:=h) ?_ k1
 show o_look .str zero ok m k ls vs h=_
 by_cases e:t∈l
 ·simp only [o_look,hm,hk,lookV,KK.has,ho.2,findE_mS,if_pos e,keep,decide_eq_true e]
 ·simp only [o_look,hm,hk,lookV,KK.has,ho.2,findE_mS,if_neg e,keep,decide_eq_false e]
theorem mxN (a b:Nat) (l:List V):mxV (.int .i64 (.ofNat a)) (.int .i64 (.ofNat b) :: l)=mxV (.int .i64 (.ofNat (max a b))) l:=by
 show (if IntKind.i64=IntKind.i64 then mxV (.int .i64 (if Int.ofNat b > Int.ofNat a then Int.ofNat b else Int.ofNat a)) l else none)=_
 rw [if_pos rfl]
 congr 2
 by_cases h:a<b
 ·have h':Int.ofNat b > Int.ofNat a:=by show (a:Int)<b;omega
  rw [if_pos h',Nat.max_eq_right (by omega)]
 ·have h':¬ Int.ofNat b > Int.ofNat a:=by show ¬ (a:Int)<b;omega
  rw [if_neg h',Nat.max_eq_left (by omega)]
theorem w_mx3 {x a b c:Opd} {n1 n2 n3 n4:Nat} (hx:ev ls vs x=some (.int .i64 (.ofNat n1))) (hl:evs ls vs [a,b,c]=some [.int .i64 (.ofNat n2),.int .i64 (.ofNat n3),.int .i64 (.ofNat n4)]) (k1:WPo T O os (.int .i64 (.ofNat (max (max (max n1 n2) n3) n4)) :: ls) vs h Q):WPo T O (⟨none,.mx x [a,b,c]⟩ :: os) ls vs h Q:=by
 refine w_op (v:=.int .i64 (.ofNat (max (max (max n1 n2) n3) n4))) (h1:=h) ?_ k1
 show o_mx x [a,b,c] ls vs h=_
 unfold o_mx
 rw [hx,hl]
 show keep h (mxV _ _)=_
 rw [mxN,mxN,mxN]
 rfl
theorem limN {M:ModA} {F:FnA} {n:Nat} : lim M F (Int.ofNat n)=if n=1 then (M.consts.length:Int) else if n=2∨n=3 then F.vars else if n=20 then 256 else if n=22 then M.fns.length else if n=23∨n=25 then M.roles.length
 else if n=24 then M.tags.length else if n=27∨n=28∨n=29∨n=30 then F.code.length else if n<1∨34<n then 0 else 1:=by
 have e:∀ k:Nat,(Int.ofNat n=(k:Int))=(n=k):=fun k=>propext ⟨fun h=>Int.ofNat.inj h,fun h=>by rw [h];rfl⟩
 have e1:(Int.ofNat n<1)=(n<1):=propext ⟨fun h=>by have:(n:Int)<1:=h;omega,fun h=>by show (n:Int)<1;omega⟩
 have e2:((34:Int)<Int.ofNat n)=(34<n):=propext ⟨fun h=>by have:(34:Int)<n:=h;omega,fun h=>by show (34:Int)<n;omega⟩
 unfold lim
 simp only [e1,e2,show (Int.ofNat n=1)=(n=1) from e 1,show (Int.ofNat n=2)=(n=2) from e 2,show (Int.ofNat n=3)=(n=3) from e 3,show (Int.ofNat n=20)=(n=20) from e 20,show (Int.ofNat n=22)=(n=22) from e 22,show (Int.ofNat n=23)=(n=23) from e 23,show (Int.ofNat n=24)=(n=24) from e 24,show (Int.ofNat n=25)=(n=25) from e 25,show (Int.ofNat n=27)=(n=27) from e 27,show (Int.ofNat n=28)=(n=28) from e 28,show (Int.ofNat n=29)=(n=29) from e 29,show (Int.ofNat n=30)=(n=30) from e 30]
theorem lim_rng {M:ModA} {F:FnA} {n:Nat} (h:0<lim M F (Int.ofNat n)):1≤n∧n≤34:=by
 rw [limN] at h
 by_cases h1:n<1∨34<n
 ·exfalso
  revert h
  repeat (first | rw [if_pos h1] | rw [if_neg (by omega)])
  exact fun h=>absurd h (by decide)
 ·omega
theorem ofN {n k:Nat} : (Int.ofNat n=(k:Int))↔n=k:=⟨fun h=>Int.ofNat.inj h,fun h=>by rw [h];rfl⟩
def OnX (M:ModA) (rp:Int) (fs:List Int) (ts:List (List UInt8)) (o:OnA):Prop:=
 0≤o.fn∧o.fn<M.fns.length∧o.fn∉fs∧o.tag∉ts∧0≤o.params∧o.params≤30∧((M.fns[o.fn.toNat]?).map fun F=>F.params)=some (o.params+rp)
def OnsX (M:ModA) (rp:Int) (fs:List Int) (l:List OnA):Prop:=∀ (i:Nat) (o:OnA),l[i]? = some o→OnX M rp (fs++(l.take i).map fun o=>o.fn) ((l.take i).map fun o=>o.tag) o
def RoleX (M:ModA) (fs:List Int) (r:PartA):Prop:=0≤r.params∧r.params≤30∧OnsX M r.params fs r.on
def fnsOf (l:List PartA):List Int:=l.flatMap fun r=>r.on.map fun o=>o.fn
def RolesX (M:ModA) (l:List PartA):Prop:=∀ (i:Nat) (r:PartA),l[i]? = some r→RoleX M (fnsOf (l.take i)) r
def InsX (M:ModA) (F:FnA) (bd:Bool) (i:InsA):Prop:=InsOk M F bd i∧(0<i.b→i.op=24)
def FunX (M:ModA) (bd:Bool) (F:FnA):Prop:=0≤F.params∧F.params≤F.vars∧F.vars≤30∧F.code.length≤16384∧lastOk F.code∧∀ i∈F.code,InsX M F bd i
structure ModX (M:ModA):Prop where
 len:M.consts.length≤4096∧M.tags.length≤4096∧M.fns.length≤4096∧M.roles.length≤4096
 rs:RolesX M M.roles
 cs:∀ c∈M.consts,cVal.ok c
 fs:∀ (k:Nat) (F:FnA),M.fns[k]? = some F→FunX M (isBody M k) F
theorem mem_fnsOf {l:List PartA} {n:Int} : n∈fnsOf l↔∃ r∈l,∃ o∈r.on,o.fn=n:=by
 simp only [fnsOf,List.mem_flatMap,List.mem_map]
theorem isBody_iff {M:ModA} {k:Nat} : isBody M k=true↔(k:Int)∈fnsOf M.roles:=by
 rw [mem_fnsOf]
 simp only [isBody,List.any_eq_true,decide_eq_true_eq]
theorem fnsOf_snoc {l:List PartA} {j:Nat} (hj:j<l.length):fnsOf (l.take (j+1))=fnsOf (l.take j)++l[j].on.map fun o=>o.fn:=by
 rw [List.take_succ_eq_append_getElem hj]
 unfold fnsOf
 rw [List.flatMap_append]
 simp
theorem take_mem {α:Type} {l:List α} {p q:Nat} {a:α} (h:l[p]? = some a) (hq:p<q):a∈l.take q:=by
 refine List.mem_of_getElem? (i:=p) ?_
 rw [List.getElem?_take_of_lt hq]
 exact h
theorem ModX.ok {M:ModA} (k:ModX M) (hb:∀ r∈M.roles,r.on.length≤2097152):ModOk M:=by
 have on:∀ (p:Nat) (r:PartA) (o:OnA),M.roles[p]? = some r→o∈r.on→OnOk M r o∧o.fn∉fnsOf (M.roles.take p):=fun p r o hr ho=>by
  obtain ⟨j,hj⟩:=List.getElem?_of_mem ho
  obtain ⟨h1,h2,h3,h4,h5,h6,h7⟩:=(k.rs p r hr).2.2 j o hj
  exact ⟨⟨h1,h2,h5,h6,h7⟩,fun e=>h3 (List.mem_append.2 (.inl e))⟩
 refine ⟨k.len,k.cs,fun r hr=>?_,fun i F hF=>?_,fun p q r r' o o' hr hr' ho ho' e=>?_⟩
 ·obtain ⟨p,hp⟩:=List.getElem?_of_mem hr
  have:=k.rs p r hp
  exact ⟨this.1,this.2.1,fun o ho=>(on p r o hp ho).1,hb r hr⟩
 ·have:=k.fs i F hF
  exact ⟨this.1,this.2.1,this.2.2.1,this.2.2.2.1,this.2.2.2.2.1,fun x hx=>(this.2.2.2.2.2 x hx).1⟩
 ·rcases Nat.lt_trichotomy p q with h | h | h
  ·exact absurd (mem_fnsOf.2 ⟨r,take_mem hr h,o,ho,e⟩) (on q r' o' hr' ho').2
  ·exact h
  ·exact absurd (mem_fnsOf.2 ⟨r',take_mem hr' h,o',ho',e.symm⟩) (on p r o hr ho).2
theorem OnsX.snoc {M:ModA} {rp:Int} {fs:List Int} {l:List OnA} {j:Nat} (h:OnsX M rp fs (l.take j)) (hj:j<l.length) (k:OnX M rp (fs++(l.take j).map fun o=>o.fn) ((l.take j).map fun o=>o.tag) l[j]):OnsX M rp fs (l.take (j+1)):=fun i o hi=>by
 have hlt:i<j+1:=by
  have:=(List.getElem?_eq_some_iff.1 hi).1
  rw [List.length_take] at this
  omega
 rw [List.getElem?_take_of_lt hlt] at hi
 have et:(l.take (j+1)).take i=l.take i:=by rw [List.take_take,Nat.min_eq_left (by omega)]
 rw [et]
 by_cases e:i=j
 ·subst e
  rw [List.getElem?_eq_getElem hj] at hi
  cases hi
  exact k
 ·have:=h i o (by rw [List.getElem?_take_of_lt (by omega)];exact hi)
  rw [show (l.take j).take i=l.take i by rw [List.take_take,Nat.min_eq_left (by omega)]] at this
  exact this
theorem RolesX.snoc {M:ModA} {l:List PartA} {j:Nat} (h:RolesX M (l.take j)) (hj:j<l.length) (k:RoleX M (fnsOf (l.take j)) l[j]):RolesX M (l.take (j+1)):=fun i o hi=>by
 have hlt:i<j+1:=by
  have:=(List.getElem?_eq_some_iff.1 hi).1
  rw [List.length_take] at this
  omega
 rw [List.getElem?_take_of_lt hlt] at hi
 have et:(l.take (j+1)).take i=l.take i:=by rw [List.take_take,Nat.min_eq_left (by omega)]
 rw [et]
 by_cases e:i=j
 ·subst e
  rw [List.getElem?_eq_getElem hj] at hi
  cases hi
  exact k
 ·have:=h i o (by rw [List.getElem?_take_of_lt (by omega)];exact hi)
  rw [show (l.take j).take i=l.take i by rw [List.take_take,Nat.min_eq_left (by omega)]] at this
  exact this
theorem OnsX.nil {M:ModA} {rp:Int} {fs:List Int} : OnsX M rp fs []:=fun i o h=>by simp at h
theorem RolesX.nil {M:ModA} : RolesX M []:=fun i o h=>by simp at h
end Am
namespace Am
open Go
set_option maxHeartbeats 2000000
theorem WPo.mono {T:Nat→Option AFunc} {O:CallF} {vs ls:List V} {h:Heap} {Q Q':List V→Heap→Prop} {os:List AOp} (k:WPo T O os ls vs h Q) (hQ:∀ ls h,Q ls h→Q' ls h):WPo T O os ls vs h Q':=by
 obtain ⟨n,l,h',e,q⟩:=k
 exact ⟨n,l,h',e,hQ _ _ q⟩
theorem w_outs {ls vs vs':List V} {i:Nat} {b:V} {P:List V→Prop} (hn:nth ls 0=some b) (hv:setV vs i b=vs') (k:P vs'):∃ vs'',outsV ls [(i,0)] vs=some vs''∧P vs'':=⟨vs',by simp only [outsV,hn,hv],k⟩
mutual
def BndV:Val→Prop
 | .mk _ _ s l=>s.length≤2097152∧l.length≤2097152∧BndVl l
def BndVl:List Val→Prop
 | []=>True
 | a :: l=>BndV a∧BndVl l
end
def SpOk (n0:Int) (l:List Eff):Prop:=∀ (i:Nat) (e:Eff),l[i]? = some e→0≤e.role→e.to=IntKind.i64.wrap (n0+spawns (l.take i))
theorem SpOk.nil {n0:Int} : SpOk n0 []:=fun i e h=>by simp at h
structure Pr (n0:Int) (st:List Val) (ro u:Int) (T:Trn):Prop where
 s:T.state=st
 r:T.role=ro
 t:T.trap=0
 nx:T.next=IntKind.i64.wrap (n0+spawns T.effs)
 sp:SpOk n0 T.effs
 us:T.used=u
 sv:∀ v∈st,OkW v
 ev:∀ e∈T.effs,e.args.length≤1000∧∀ v∈e.args,OkW v
structure Sn (n0:Int) (st:List Val) (ro u:Int) (T:Trn):Prop where
 g:T.over=0→Pr n0 st ro u T
 t:T.over=4→T.effs=[]∧T.next=n0∧T.state=st∧T.role=ro∧T.trap≠7∧T.trap≠8
 o:T.over≠4→T.trap=0
 nx:T.next=IntKind.i64.wrap (n0+spawns T.effs)
 sp:SpOk n0 T.effs
 us:T.used=u
 sv:∀ v∈T.state,OkW v
 ev:∀ e∈T.effs,e.args.length≤1000∧∀ v∈e.args,OkW v
section
variable {M:ModA} {T:Trn} {fs:List Frm} {f:Frm} {n0 ro u:Int} {st:List Val} {v:Val}
theorem wrap_wrap_sub {a b:Int} (h:I64 a):IntKind.i64.wrap (IntKind.i64.wrap (a+b) - b)=a:=by
 unfold I64 at h
 simp only [wrap_i64_eq]
 omega
theorem wrap_id {a:Int} (h:I64 a):IntKind.i64.wrap a=a:=by
 unfold I64 at h
 simp only [wrap_i64_eq]
 omega
theorem ite_sn {p:Prop} [Decidable p] {a b:Trn} (h1:Sn n0 st ro u a) (h2:Sn n0 st ro u b):Sn n0 st ro u (if p then a else b):=by
 by_cases h:p
 ·rw [if_pos h];exact h1
 ·rw [if_neg h];exact h2
theorem Pr.trap (h:Pr n0 st ro u T) (hn:I64 n0) {n:Int} (h7:n≠7∧n≠8):Sn n0 st ro u (trapT T n):=by
 have e:(trapT T n).next=n0:=by
  show IntKind.i64.wrap (T.next - spawns T.effs)=n0
  rw [h.nx]
  exact wrap_wrap_sub hn
 refine ⟨fun q=>absurd q (by show ¬ (4:Int)=0;decide),fun _=>⟨rfl,e,h.s,h.r,h7.1,h7.2⟩,fun q=>absurd rfl q,?_,SpOk.nil,h.us,?_,fun e he=>by cases he⟩
 ·rw [e]
  show n0=IntKind.i64.wrap (n0+(0:Nat))
  rw [Int.natCast_zero,Int.add_zero,wrap_id hn]
 ·show ∀ v∈T.state,OkW v
  rw [h.s];exact h.sv
theorem Pr.go (h:Pr n0 st ro u T) (ho:T.over=0):Sn n0 st ro u T:=⟨fun _=>h,fun q=>absurd (ho.symm.trans q) (by decide),fun _=>h.t,h.nx,h.sp,h.us,by rw [h.s];exact h.sv,h.ev⟩
theorem Pr.fr (h:Pr n0 st ro u T) (l:List Frm):Pr n0 st ro u { T with frames:=l }:=⟨h.s,h.r,h.t,h.nx,h.sp,h.us,h.sv,h.ev⟩
theorem Pr.with_ (h:Pr n0 st ro u T) (ho:T.over=0):Sn n0 st ro u (withF T fs f):=(h.fr (fs++[f])).go ho
theorem Pr.put (h:Pr n0 st ro u T) (hn:I64 n0) (ho:T.over=0):Sn n0 st ro u (putT T fs f v):=ite_sn ((h.fr _).trap hn (by decide)) (h.with_ ho)
theorem Pr.told (h:Pr n0 st ro u T) (hn:I64 n0) (ho:T.over=0) {r:Val×Int} (hr:r.2≤6):Sn n0 st ro u (toldT T fs f r):=ite_sn (h.put hn ho) ((h.fr _).trap hn (by omega))
theorem Pr.trapW (h:Pr n0 st ro u T) (hn:I64 n0) {n:Int} (h7:n≠7∧n≠8):Sn n0 st ro u (trapT (withF T fs f) n):=(h.fr _).trap hn h7
theorem sound_tr (a:Val):(soundV a).2≤6:=by unfold soundV;split <;> exact of_decide_eq_true rfl
theorem fit_tr (a:Int):(fit a).2≤6:=by unfold fit;split <;> exact of_decide_eq_true rfl
theorem arith_tr (o a b:Int):(arithT o a b).2≤6:=by
 unfold arithT
 repeat' split
 all_goals first | exact fit_tr _ | exact of_decide_eq_true rfl
theorem at_tr (a b:Val):(atV a b).2≤6:=by
 unfold atV
 repeat' split
 all_goals exact of_decide_eq_true rfl
theorem two_tr (o:Int) (a b:Val):(twoV o a b).2≤6:=by
 unfold twoV
 repeat' split
 all_goals first | exact sound_tr _ | exact at_tr _ _ | exact arith_tr _ _ _ | exact of_decide_eq_true rfl
theorem Pr.one (h:Pr n0 st ro u T) (hn:I64 n0) (ho:T.over=0) {i:InsA} : Sn n0 st ro u (oneT T fs f i v):=by
 unfold oneT
 refine ite_sn (h.told hn ho (two_tr _ _ _)) (ite_sn ?_ (ite_sn (h.trapW hn (by decide)) (ite_sn (h.put hn ho) (ite_sn (h.put hn ho) (ite_sn (ite_sn (h.with_ ho) (h.with_ ho)) (ite_sn (h.put hn ho) (h.with_ ho)))))))
 cases lenVal v with
 | none=>exact h.trapW hn (by decide)
 | some n=>exact h.put hn ho
end
structure Beg (M:ModA) (T:Trn):Prop where
 o:T.over=0
 ok:TrnOk M T
 pr:Pr T.next T.state T.role 0 T
structure Told (M:ModA) (T:Trn) (n:Nat) (X:Trn):Prop where
 o:X.over≠0
 t:X.over=4→X.effs=[]∧X.next=T.next∧X.state=T.state∧X.role=T.role
 sv:∀ v∈X.state,OkW v
 ev:∀ e∈X.effs,e.args.length≤1000∧∀ v∈e.args,OkW v
 el:X.effs.length≤n
 t7:X.trap≠7
 u:∃ k,k≤n∧X.used=(k:Int)∧(X.trap=8→k=n)∧(X.trap≠8→1≤k∧(∀ m,k≤m→runT M m T=X)∧(runT M (k - 1) T).trap=8∧(runT M (k - 1) T).used=((k - 1:Nat):Int))
 nx:X.next=IntKind.i64.wrap (T.next+spawns X.effs)
 sp:SpOk T.next X.effs
structure Tl (M:ModA) (T:Trn) (n:Nat) (X:Trn):Prop where
 o:X.over≠0
 fr:X.frames=[]
 t:X.over=4→X.effs=[]∧X.next=T.next∧X.state=T.state∧X.role=T.role
 sv:∀ v∈X.state,OkW v
 ev:∀ e∈X.effs,e.args.length≤1000∧∀ v∈e.args,OkW v
 el:X.effs.length≤n
 u8:X.trap=8→X.used=(n:Int)
 u7:X.trap=7→X.used=0
 k:X.trap≠8→X.trap≠7→∃ k,1≤k∧k≤n∧X.used=(k:Int)∧(∀ m,k≤m→runT M m T=X)∧(runT M (k - 1) T).trap=8∧(runT M (k - 1) T).used=((k - 1:Nat):Int)
 nx:X.next=IntKind.i64.wrap (T.next+spawns X.effs)
 sp:SpOk T.next X.effs
end Am
namespace Am
open Go
def TyI (i:InsA):Prop:=0≤i.op∧i.op≤255∧I64 i.a∧I64 i.b
def TyFn (F:FnA):Prop:=I64 F.params∧I64 F.vars∧F.code.length≤1048576∧∀ i∈F.code,TyI i
def TyOn (o:OnA):Prop:=I64 o.params∧I64 o.fn
def TyPt (r:PartA):Prop:=I64 r.params∧r.on.length≤1048576∧∀ o∈r.on,TyOn o
structure TyM (M:ModA):Prop where
 cl:M.consts.length≤1048576
 tl:M.tags.length≤1048576
 fl:M.fns.length≤1048576
 rl:M.roles.length≤1048576
 cs:∀ c∈M.consts,RngV c∧BndV c
 fs:∀ F∈M.fns,TyFn F
 rs:∀ r∈M.roles,TyPt r
theorem TyM.ok {M:ModA} (k:TyM M) (h:ModX M):ModOk M:=h.ok fun r hr=>by have:=(k.rs r hr).2.1;omega
theorem ModR.c {Z:Nat→Prop} {h:Heap} {c:List V} {M:ModA} (r:ModR Z h c M) (k:TyM M):ModC h c:=by
 obtain ⟨cs,ts,fs,rs,lc,lf,lr,rfl,h1,h2,h3,h4,h5,h6,h7⟩:=r
 have n5:=h5.1
 have n7:=h7.1
 have b5:=k.fl
 have b7:=k.rl
 refine ⟨cs,ts,fs,rs,lc,M.tags.map tagC,lf,lr,rfl,h1.1,h3.1,h4.1,h6.1,fun f hf=>?_,fun f hf=>?_,by omega,by omega⟩
 ·obtain ⟨i,hi⟩:=List.getElem?_of_mem hf
  have hi1:=(List.getElem?_eq_some_iff.1 hi).1
  have hi2:i<M.fns.length:=by omega
  obtain ⟨v,e,q⟩:=h5.2 i f M.fns[i] hi (List.getElem?_eq_getElem hi2)
  have t:=k.fs _ (List.getElem_mem hi2)
  refine ⟨_,_,_,v,_,e,q.1,fun x hx=>?_,by have:=t.2.2.1;rw [List.length_map];omega⟩
  obtain ⟨y,_,rfl⟩:=List.mem_map.1 hx
  exact ⟨_,_,_,rfl⟩
 ·obtain ⟨i,hi⟩:=List.getElem?_of_mem hf
  have hi1:=(List.getElem?_eq_some_iff.1 hi).1
  have hi2:i<M.roles.length:=by omega
  obtain ⟨v,e,q⟩:=h7.2 i f M.roles[i] hi (List.getElem?_eq_getElem hi2)
  have t:=k.rs _ (List.getElem_mem hi2)
  refine ⟨_,_,v,_,e,q.1,fun x hx=>?_,by have:=t.2.1;rw [List.length_map];omega⟩
  obtain ⟨y,_,rfl⟩:=List.mem_map.1 hx
  exact ⟨_,_,_,rfl⟩
structure AskA where
 role:Int
 state:List Val
 tag:List UInt8
 args:List Val
 self:Int
 next:Int
 steps:Int
def TyVl (l:List Val):Prop:=l.length≤300000∧∀ a∈l,RngV a∧BndV a
structure TyAsk (q:AskA):Prop where
 r:I64 q.role
 s:TyVl q.state
 a:TyVl q.args
 se:I64 q.self
 nx:I64 q.next
 st:I64 q.steps
def AskR (Z:Nat→Prop) (h:Heap) (c:List V) (q:AskA):Prop:=∃ v w ls la,c=[.int .i64 q.role,v,.str q.tag,w,.int .i64 q.self,.int .i64 q.next,.int .i64 q.steps]∧RSz Z h 4 v ls∧VasR Z h q.state ls∧RSz Z h 4 w la∧VasR Z h q.args la
end Am
namespace Am
open Go
def shapeN (o:Nat):List UInt8:=
 if o=1 then [114,114,48,45] else if o=2 then [114,107,48,45] else if o=3 then [114,48,48,45] else if o=4 then [114,118,48,120] else if o=10 then [114,114,48,120]
 else if o=11∨o=12 then [114,114,114,45] else if o=17 then [106,48,48,45] else if o=18 then [106,114,48,120] else if o=19 then [116,114,110,120] else if o=20 then [114,114,110,120]
 else if o=21 then [48,48,48,45] else if o=22 then [48,48,48,120] else if 5≤o∧o≤16 then [114,114,114,120] else []
def withinB (n b:Int):Bool:=decide (0≤n) && decide (n<b)
def letB (M:ModA) (F:FastA) (k:Nat) (n:Int):Bool:=
 if k=114 then withinB n F.2.1 else if k=107 then withinB n M.consts.length else if k=116 then withinB n M.tags.length else if k=106 then withinB n F.2.2.1.length
 else if k=118 then decide (1≤n) && decide (n≤5) else if k=110 then withinB n 256 else if k=120 then withinB n F.2.2.2.1.length else if k=45 then decide (n = -1) else decide (n=0)
def nthS (s:SpecA) (i:Nat):Int:=if i=0 then s.2.1 else if i=1 then s.2.2.1 else if i=2 then s.2.2.2.1 else s.2.2.2.2.2.2
structure MayS (M:ModA) (F:FastA) (s:SpecA):Prop where
 sh:shapeN s.1.toNat≠[]
 le:0≤s.2.2.2.2.1
 ow:s.2.2.2.2.2.1<2
 lt:∀ i,i<4→letB M F (((shapeN s.1.toNat)[i]?).getD 0).toNat (nthS s i)=true
theorem withinB_of {n b:Int} (h:b≤n):withinB n b=false:=by
 unfold withinB
 rw [decide_eq_false (by omega:¬ n<b),Bool.and_false]
theorem shape_big {o:Nat} (h:22<o):shapeN o=[]:=by
 unfold shapeN
 repeat rw [if_neg (by omega)]
theorem shape_lt {o:Nat} (h:shapeN o≠[]):o<23:=by
 rcases Nat.lt_or_ge 22 o with q | q
 ·exact absurd (shape_big q) h
 ·omega
theorem len_all:∀ o:Fin 23,shapeN o.1≠[]→(shapeN o.1).length=4:=by decide
theorem shape_four {o:Nat} (h:shapeN o≠[]):∃ a b c d,shapeN o=[a,b,c,d]:=by
 have:=len_all ⟨o,shape_lt h⟩ h
 match hs:shapeN o,this with
 | [a,b,c,d],_=>exact ⟨a,b,c,d,rfl⟩
def fstL (o:Nat):Nat:=(((shapeN o)[0]?).getD 0).toNat
def lstL (o:Nat):Nat:=(((shapeN o)[3]?).getD 0).toNat
theorem fst_all:∀ o:Fin 23,shapeN o.1≠[]→(o.1=21∨o.1=22)∧fstL o.1=48∨¬ (o.1=21∨o.1=22)∧(fstL o.1=114∨fstL o.1=106∨fstL o.1=116):=by decide
theorem lst_all:∀ o:Fin 23,shapeN o.1≠[]→(o.1=1∨o.1=11∨o.1=12∨o.1=2∨o.1=3∨o.1=17∨o.1=21)∧lstL o.1=45∨¬ (o.1=1∨o.1=11∨o.1=12∨o.1=2∨o.1=3∨o.1=17∨o.1=21)∧lstL o.1=120:=by decide
theorem bad_a {M:ModA} {F:FastA} {s:SpecA} (h0:0≤s.1∧s.1≤255) {a:Int} (h1:(s.1=21∨s.1=22)→a=1) (h2:¬ (s.1=21∨s.1=22)→F.2.1≤a∧(F.2.2.1.length:Int)≤a∧(M.tags.length:Int)≤a):¬ MayS M F (s.1,a,s.2.2):=fun k=>by
 have k0:=k.lt 0 (by omega)
 have ks:=k.sh
 obtain ⟨o,ho⟩:∃ o:Nat,s.1=(o:Int):=⟨s.1.toNat,by omega⟩
 simp only [ho,Int.toNat_natCast] at k0 ks
 change letB M F (fstL o) a=true at k0
 rw [ho] at h1 h2
 have hl:=shape_lt ks
 rcases fst_all ⟨o,hl⟩ ks with ⟨e1,e2⟩ | ⟨e1,e2⟩
 ·replace e1:o=21∨o=22:=e1
  replace e2:fstL o=48:=e2
  rw [h1 (by omega),e2] at k0
  exact absurd (show decide ((1:Int)=0)=true from k0) (by decide)
 ·replace e1:¬ (o=21∨o=22):=e1
  obtain ⟨g1,g2,g3⟩:=h2 (by omega)
  rcases e2 with e2 | e2 | e2
  ·rw [show fstL o=114 from e2] at k0
   rw [show letB M F 114 a=withinB a F.2.1 from rfl,withinB_of g1] at k0
   cases k0
  ·rw [show fstL o=106 from e2] at k0
   rw [show letB M F 106 a=withinB a F.2.2.1.length from rfl,withinB_of g2] at k0
   cases k0
  ·rw [show fstL o=116 from e2] at k0
   rw [show letB M F 116 a=withinB a M.tags.length from rfl,withinB_of g3] at k0
   cases k0
theorem bad_e {M:ModA} {F:FastA} {s:SpecA} (h0:0≤s.1∧s.1≤255) {e:Int} (h1:(s.1=1∨s.1=11∨s.1=12∨s.1=2∨s.1=3∨s.1=17∨s.1=21)→e=0) (h2:¬ (s.1=1∨s.1=11∨s.1=12∨s.1=2∨s.1=3∨s.1=17∨s.1=21)→e=F.2.2.2.1.length):¬ MayS M F (s.1,s.2.1,s.2.2.1,s.2.2.2.1,s.2.2.2.2.1,s.2.2.2.2.2.1,e):=fun k=>by
 have k0:=k.lt 3 (by omega)
 have ks:=k.sh
 obtain ⟨o,ho⟩:∃ o:Nat,s.1=(o:Int):=⟨s.1.toNat,by omega⟩
 simp only [ho,Int.toNat_natCast] at k0 ks
 change letB M F (lstL o) e=true at k0
 rw [ho] at h1 h2
 have hl:=shape_lt ks
 rcases lst_all ⟨o,hl⟩ ks with ⟨e1,e2⟩ | ⟨e1,e2⟩
 ·replace e1:o=1∨o=11∨o=12∨o=2∨o=3∨o=17∨o=21:=e1
  rw [h1 (by omega),show lstL o=45 from e2] at k0
  exact absurd (show decide ((0:Int) = -1)=true from k0) (by decide)
 ·replace e1:¬ (o=1∨o=11∨o=12∨o=2∨o=3∨o=17∨o=21):=e1
  have g:=h2 (by omega)
  subst g
  rw [show lstL o=120 from e2] at k0
  rw [show letB M F 120 (F.2.2.2.1.length:Int)=withinB (F.2.2.2.1.length:Int) F.2.2.2.1.length from rfl,withinB_of (by omega)] at k0
  cases k0
structure TyFa (F:FastA):Prop where
 cl:F.2.2.1.length≤10485760
 el:F.2.2.2.1.length≤10485760
 nl:F.2.2.2.2.length≤10485760
 sp:∀ s∈F.2.2.1,0≤s.1∧s.1≤255
 bl:∀ e∈F.2.2.2.1,e.length≤10485760∧∀ b∈e,b.2.2.1.length≤10485760∧b.2.2.2.length≤10485760
theorem encL_mem {α:Type} (f:α→List Nat) {l:List α} {a:α} (h:a∈l):(f a).length≤(encL f l).length:=by
 obtain ⟨j,hj,rfl⟩:=List.mem_iff_getElem.1 h
 have:=encL_split f l hj
 omega
theorem TyFa.of {F:FastA} (k:TyF F) (h:(wFast F).length≤10485760):TyFa F:=by
 unfold wFast at h
 simp only [List.length_append] at h
 have h1:=encL_ge wSpec_ge F.2.2.1
 have h2:=encL_ge wExit_ge F.2.2.2.1
 have h3:=encL_ge wNeed_ge F.2.2.2.2
 refine ⟨by omega,by omega,by omega,k.1,fun e he=>?_⟩
 have h4:=encL_mem wExit he
 have h5:(wExit e).length≤10485760:=by omega
 unfold wExit at h5
 rw [List.length_append] at h5
 have h6:=encL_ge wBack_ge e
 refine ⟨by omega,fun b hb=>?_⟩
 have h7:=encL_mem wBack hb
 have h8:(wBack b).length≤10485760:=by omega
 unfold wBack at h8
 simp only [List.length_append] at h8
 have h9:=encL_ge encI_ge b.2.2.1
 have h10:=encL_ge encI_ge b.2.2.2
 exact ⟨by omega,by omega⟩
theorem w_mxI {T:Nat→Option AFunc} {O:CallF} {vs ls:List V} {h:Heap} {Q:List V→Heap→Prop} {os:List AOp} {x:Opd} {l:List Opd} {a b c d:Int} (hx:ev ls vs x=some (.int .i64 a)) (hl:evs ls vs l=some [.int .i64 b,.int .i64 c,.int .i64 d]) (k1:∀ r:Int,a≤r→b≤r→c≤r→d≤r→WPo T O os (.int .i64 r :: ls) vs h Q):WPo T O (⟨none,.mx x l⟩ :: os) ls vs h Q:=by
 have e:∀ p q:Int,(if q > p then q else p)=max p q:=fun p q=>by
  by_cases h:q > p
  ·rw [if_pos h];omega
  ·rw [if_neg h];omega
 refine w_op (v:=.int .i64 (max (max (max a b) c) d)) (h1:=h) ?_ (k1 _ (by omega) (by omega) (by omega) (by omega))
 show o_mx x l ls vs h=_
 unfold o_mx
 rw [hx,hl]
 simp only [mxV,if_true,e,keep]
theorem bad_op {M:ModA} {F:FastA} {s:SpecA} : ¬ MayS M F (23,s.2):=fun k=>k.sh (shape_big (show (22:Nat)<(23:Int).toNat by decide))
theorem bad_lead {M:ModA} {F:FastA} {o a b c ow e:Int} : ¬ MayS M F (o,a,b,c,-1,ow,e):=fun k=>absurd k.le (by show ¬ (0:Int)≤-1;decide)
theorem bad_own {M:ModA} {F:FastA} {o a b c l e:Int} : ¬ MayS M F (o,a,b,c,l,2,e):=fun k=>absurd k.ow (by show ¬ (2:Int)<2;decide)
theorem set_spec {l:List SpecA} {k:Nat} {s:SpecA} : (l.map specC).set k (specC s)=(l.set k s).map specC:=by rw [List.map_set]
end Am
