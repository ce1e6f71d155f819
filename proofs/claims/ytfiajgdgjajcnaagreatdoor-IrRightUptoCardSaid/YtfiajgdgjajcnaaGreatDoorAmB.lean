/-
  An abstract machine for Go programs, sound for the model: part B. Conditions: none beyond those that each theorem states.
-/
import Derived.Orders
import Derived.CheckFast
import Derived.LoopN
import Derived.Test.YtfiajgdgjajcnaaGreatDoorAmA
namespace Am
open Go
variable {C:Ctx} {E:Env} {H:Heap} {w:World} {opd:Operand→Option Opd} {ls vs:List V} {ρ:Operand→Value}
variable {o:Oper} {k:AK} {h':Heap} {v:V}
theorem zeroCells_size (z:Array Value) (n:Nat):(Builtin.zeroCells z n).size=n * z.size:=by simp [Builtin.zeroCells]
def Yields (C:Ctx) (E:Env) (H:Heap) (w:World) (s:Sem Value) (v:V) (H':Heap):Prop:=
 ∃ (y:Value) (E':Env) (w':World),s.run C.P w=.ok y w'∧R C E' H' w'∧Good H.n E w E' w'∧H.n≤H'.n∧VR E' v y
theorem CR.one {c:List V} {xs:Array Value} (h:CR E c xs) (ho:allOne c=true):∀ x∈xs.toList,x.oneCell'=true:=by
 intro x hx
 obtain ⟨i,hi,e⟩:=List.mem_iff_getElem.1 hx
 have hs:i<xs.size:=by simpa using hi
 have hc:i<c.length:=by rw [← h.1];exact hs
 exact (h.2 i c[i] x (by simp [hc]) (by simp at e;simp [hs,e])).one (allOne_iff.1 ho _ (List.getElem_mem hc))
theorem cr_nil {xs:Array Value} (h:CR E [] xs):xs = #[]:=by
 have:=h.1
 simpa using this
theorem allOne_append {a b:List V} (ha:allOne a=true) (hb:allOne b=true):allOne (a++b)=true:=by
 rw [allOne_iff] at *
 intro v hv
 rcases List.mem_append.1 hv with h | h
 ·exact ha v h
 ·exact hb v h
theorem row_split {c src:List V} {p L:Nat} {old new rest:Array Value} (h1:CR E ((c.take p).drop (p - L)) old) (h2:CR E src new) (hp:p≤c.length) (hL:L≤p) :
  ∀ (i:Nat) (v:V),(c.take p++src)[i]? = some v→p - L≤i→∃ x,(old++new++rest)[i - (p - L)]? = some x∧VR E v x:=by
 intro i v hv hi
 have ho:old.size=L:=by rw [h1.1];simp;omega
 rw [List.getElem?_append] at hv
 have hlen:(c.take p).length=p:=by simp;omega
 rw [hlen] at hv
 split at hv
 ·rename_i hip
  have hlt:i - (p - L)<old.size:=by omega
  rw [Array.append_assoc,Array.getElem?_append_left hlt]
  refine ⟨old[i - (p - L)],by simp [hlt],h1.2 (i - (p - L)) v _ ?_ (by simp [hlt])⟩
  rw [List.getElem?_drop,show p - L+(i - (p - L))=i from by omega]
  exact hv
 ·rename_i hip
  have hlt:i - p<src.length:=by
   rcases Nat.lt_or_ge (i - p) src.length with h' | h'
   ·exact h'
   ·rw [List.getElem?_eq_none h'] at hv;cases hv
  have hn:i - p<new.size:=by rw [h2.1];exact hlt
  rw [Array.append_assoc,Array.getElem?_append_right (by omega),show i - (p - L) - old.size=i - p from by omega,Array.getElem?_append_left hn]
  exact ⟨new[i - p],by simp [hn],h2.2 _ v _ hv (by simp [hn])⟩
section
variable {t u e:TypeId} {ts:List TypeId} {as:List Value} {ty:TypeId} {x s:Value} {n esz b:Nat} {zeros:Bool} {d:TypeDesc} {src:List V} {zv:Value} {S:V}
theorem app_ok (hR:R C E H w) (hu:C.P.underlying t=some (.slice e)) (hsz:sizeT C.P e=some esz) (hd:C.P.underlying u=some d) (hz:isInt d=zeros)
  (hn:zeros=false→(Builtin.lenOf x).run C.P w=.ok n w) (hn':zeros=true→(∃ k,x=.int k (Int.ofNat n))∧n≤4294967296) (hb:bytesT C.P e=some b) (hb1:b≤16384) (hb0:0<b)
  (hzv:∀ w,(zeroValue e).run C.P w=.ok zv w) (hzs:zv.cells.size=esz) (hlen:src.length=n * esz) (hone:allOne src=true)
  (hnew:∀ w',w'=w∨w'=w.drew→∃ new,(appd zeros esz n x e).run C.P w'=.ok new w'∧CR E src new)
  (hS:VR E S s) (hv:appV H esz S n src=some (v,h')) :
  Yields C E H w (Builtin.append_ (t :: u :: ts).toArray ty (s :: x :: as).toArray) v h':=by
 obtain ⟨new,hnew1,hcr1⟩:=hnew w (.inl rfl)
 obtain ⟨new2,hnew2,hcr2⟩:=hnew w.drew (.inr rfl)
 unfold appV at hv
 split at hv
 ·-- nothing
  have hs0:src=[]:=by simpa using hlen
  subst hs0
  obtain rfl:=cr_nil hcr1
  have stay:∀ (base:Option Addr) (len cap:Nat),s=.slice base len cap→len≤cap→(Builtin.append_ (t :: u :: ts).toArray ty (s :: x :: as).toArray).run C.P w=.ok s w:=by
   rintro base len cap rfl hle
   rw [append_in hu hsz hd hz hn hn' hb hb1 hnew1 hle]
   cases base <;> simp [storeCells]
  split at hv
  ·simp only [Option.some.injEq,Prod.mk.injEq] at hv
   obtain ⟨rfl,rfl⟩:=hv
   exact ⟨s,E,w,stay none 0 0 hS.nils_inv (Nat.le_refl _),hR,.refl _ _ _,Nat.le_refl _,hS⟩
  ·simp only [Option.some.injEq,Prod.mk.injEq] at hv
   obtain ⟨rfl,rfl⟩:=hv
   obtain ⟨a,cap,e1,e2⟩:=hS.vec_inv
   exact ⟨s,E,w,stay _ _ _ e1 e2,hR,.refl _ _ _,Nat.le_refl _,hS⟩
  ·simp only [Option.some.injEq,Prod.mk.injEq] at hv
   obtain ⟨rfl,rfl⟩:=hv
   refine ⟨s,E,w,?_,hR,.refl _ _ _,Nat.le_refl _,hS⟩
   cases hS with
   | sl _ _ _ h3 _ _=>exact stay _ _ _ rfl h3
  ·cases hv
 ·rename_i hn0
  have hnpos:0<n:=Nat.pos_of_ne_zero fun e=>hn0 e
  split at hv
  ·-- onto nil
   split at hv
   ·rename_i hroom
    simp only [Option.some.injEq,Prod.mk.injEq] at hv
    obtain ⟨rfl,rfl⟩:=hv
    obtain rfl:=hS.nils_inv
    have hroom':n≤4294967296:=nble.1 hroom
    obtain ⟨c,hc,hrun⟩:=append_out (w:=w) (ts:=ts) (as:=as) (ty:=ty) (base:=none) (len:=0) (cap:=0) (old:=#[]) hu hsz hd hz hn hn' hb hb1 hb0 (by simp [Builtin.firstCells]) hnew2 (by omega) (by omega) hzv
    simp only [Nat.zero_add] at hc hrun
    have hsize:(#[]++new2++Builtin.zeroCells zv.cells (c - n)).size=c * esz:=by
     simp only [Array.size_append,zeroCells_size,hzs,hcr2.1,hlen,List.size_toArray,List.length_nil,Nat.zero_add]
     rw [← Nat.add_mul];congr 1;omega
    have hN:New w (w.drew.alloc (.cells (#[]++new2++Builtin.zeroCells zv.cells (c - n)) e)) (.cells (#[]++new2++Builtin.zeroCells zv.cells (c - n)) e):=⟨rfl,rfl,rfl,rfl⟩
    have hle:n * esz≤c * esz:=Nat.mul_le_mul_right _ hc
    obtain ⟨k1,k2⟩:=hR.make (obj:=.cells src 0 big) (ext:=src.length) (sz:=c * esz) hN (objR_part (w0:=w.drew) (by rw [hsize,hlen];exact hle) (fun i v x hv hx=>by
     have:=row_split (c:=[]) (p:=0) (L:=0) (old:=#[]) (rest:=Builtin.zeroCells zv.cells (c - n)) (E:=E) ⟨rfl,by simp⟩ hcr2 (Nat.le_refl _) (Nat.le_refl _) i v (by simpa using hv) (Nat.zero_le _)
     obtain ⟨y,hy,hvy⟩:=this
     simp only [Nat.sub_zero] at hy;rw [hx] at hy;cases hy;exact hvy) hone (by intro off _ h;omega) hsize.symm rfl)
    refine ⟨_,_,_,hrun,k1,k2,Nat.le_succ _,?_⟩
    exact .sl (off:=0) Env.add_at (Nat.le_refl _) (by simp [hlen]) hc (fun h=>by cases h) (fun _=>⟨rfl,.inl (by simp)⟩)
   ·cases hv
  ·rename_i id off len ver ez full
   split at hv
   ·rename_i c cur low hg
    split at hv
    ·rename_i hcond
     simp only [Bool.and_eq_true,nbeq] at hcond
     obtain ⟨⟨rfl,hroom⟩,hgd⟩:=hcond
     have hroom':len+n≤4294967296:=nble.1 hroom
     have hsrc:srcCells H ez (.sl id off len ver ez full)=some (len,(c.drop off).take (len * ez)):=by
      simp only [srcCells,hg,hgd,Bool.true_and]
      rw [show Nat.beq ez ez=true from nbeq.2 rfl]
     obtain ⟨s1,s2,_,s4⟩:=src_ok hR.drew hsrc hS
     obtain ⟨old,hold,hcro⟩:=s4 len (Nat.le_refl _)
     rw [List.take_of_length_le (by rw [s1];exact Nat.le_refl _)] at hcro
     cases hS with
     | @sl _ _ _ _ _ _ r a cap g1 g2 g3 g4 g5 g6=>
     obtain ⟨gl,_⟩:=good_some hgd
     obtain ⟨ob,o1,o2⟩:=hR.obj _ _ _ g1
     rw [hg] at o1;cases o1
     have hmul:(len+n) * ez=len * ez+n * ez:=Nat.add_mul _ _ _
     have hbig:∀ c':Nat,len+n≤c'→len * ez+n * ez+(c' - (len+n)) * ez=c' * ez:=by
      intro c' h
      rw [← hmul,← Nat.add_mul];congr 1;omega
     split at hv
     ·-- full: a new object
      simp only [Option.some.injEq,Prod.mk.injEq] at hv
      obtain ⟨rfl,rfl⟩:=hv
      have hcap:=g5 rfl
      obtain ⟨c',hc',hrun⟩:=append_out (w:=w) (ts:=ts) (as:=as) (ty:=ty) hu hsz hd hz hn hn' hb hb1 hb0 hold hnew2 (by omega) hroom' hzv
      have hsize:(old++new2++Builtin.zeroCells zv.cells (c' - (len+n))).size=c' * ez:=by
       simp only [Array.size_append,zeroCells_size,hzs,hcr2.1,hlen,hcro.1,s1]
       exact hbig c' hc'
      have hN:New w (w.drew.alloc (.cells (old++new2++Builtin.zeroCells zv.cells (c' - (len+n))) e)) (.cells (old++new2++Builtin.zeroCells zv.cells (c' - (len+n))) e):=⟨rfl,rfl,rfl,rfl⟩
      have hle:(len+n) * ez≤c' * ez:=Nat.mul_le_mul_right _ hc'
      have hl2:((c.drop off).take (len * ez)++src).length=len * ez+n * ez:=by rw [List.length_append,s1,hlen]
      obtain ⟨k1,k2⟩:=hR.make (obj:=.cells ((c.drop off).take (len * ez)++src) 0 big) (ext:=((c.drop off).take (len * ez)++src).length) (sz:=c' * ez) hN (objR_part (w0:=w.drew) (by rw [hsize,hl2];omega) (fun i v x hv hx=>by
       have:=row_split (c:=(c.drop off).take (len * ez)) (p:=len * ez) (L:=len * ez) (old:=old) (rest:=Builtin.zeroCells zv.cells (c' - (len+n))) (E:=E) (by
        rw [List.take_of_length_le (by rw [s1];exact Nat.le_refl _),Nat.sub_self];exact hcro) hcr2 (by rw [s1];exact Nat.le_refl _) (Nat.le_refl _) i v (by rw [List.take_of_length_le (by rw [s1];exact Nat.le_refl _)];exact hv) (by omega)
       obtain ⟨y,hy,hvy⟩:=this
       simp only [Nat.sub_self,Nat.sub_zero] at hy;rw [hx] at hy;cases hy;exact hvy) (allOne_append s2 hone) (by intro off _ h;omega) hsize.symm rfl)
      refine ⟨_,_,_,hrun,k1,k2,Nat.le_succ _,?_⟩
      exact .sl (off:=0) Env.add_at (Nat.le_refl _) (by simp only [hl2];omega) hc' (fun h=>by cases h) (fun _=>⟨rfl,.inl (by simp)⟩)
     ·split at hv
      ·rename_i hvc
       rw [nbeq] at hvc;subst hvc
       -- one form for both
       have hv2:∃ low',v=.sl id off (len+n) (ver+1) ez false∧h'=H.set id (.cells (c.take (off+len * ez)++src) (ver+1) low')∧(low'=low∧off+len * ez=c.length∨low'=minN low (off+len * ez)):=by
        split at hv
        ·rename_i hp
         rw [nbeq] at hp
         simp only [Option.some.injEq,Prod.mk.injEq] at hv
         obtain ⟨rfl,rfl⟩:=hv
         exact ⟨low,rfl,by rw [List.take_of_length_le (by omega)],.inl ⟨rfl,hp⟩⟩
        ·simp only [Option.some.injEq,Prod.mk.injEq] at hv
         obtain ⟨rfl,rfl⟩:=hv
         exact ⟨_,rfl,rfl,.inr rfl⟩
       obtain ⟨low',rfl,rfl,hlow⟩:=hv2
       obtain ⟨rc,tt,fr,h0,h1,h2,h3,h4,h5,h6,h7,h8,h9⟩:=o2
       have hext:=h4 rfl
       have hcone:∀ v∈c.take (off+len * ez)++src,v.one=true:=allOne_iff.1 (allOne_append (allOne_iff.2 fun v hv=>h9 v (List.mem_of_mem_take hv)) hone)
       have hl2:(c.take (off+len * ez)++src).length=off+len * ez+n * ez:=by rw [List.length_append,hlen];simp;omega
       by_cases hfit:len+n≤cap
       ·-- in place
        have hcap0:cap≠0:=by omega
        obtain ⟨rfl,hrm⟩:=g6 hcap0
        have hle:(len+n) * ez≤cap * ez:=Nat.mul_le_mul_right _ hfit
        have hrun:=append_in (w:=w) (ts:=ts) (as:=as) (ty:=ty) (base:=some ⟨r.b,off - r.lo,none⟩) hu hsz hd hz hn hn' hb hb1 hnew1 hfit
        obtain ⟨w',rc',k1,k2,k3,k4,k5⟩:=run_storeCells_row (P:=C.P) (b:=r.b) (o:=off - r.lo+len * ez) new.toList 0 rc w h0 h2 (by simp only [Array.length_toList,hcr1.1,hlen];omega) (hcr1.one hone)
        have hsame:w'.heap.size=w.heap.size∧w'.os=w.os∧w'.tape=w.tape∧w'.output=w.output∧∀ b',b'≠r.b→w'.heap[b']? = w.heap[b']?:=by
         rcases k2 with ⟨_,rfl⟩ | k2
         ·exact ⟨rfl,rfl,rfl,rfl,fun _ _=>rfl⟩
         ·exact ⟨k2.size,k2.os,k2.tape,k2.output,k2.other⟩
        obtain ⟨q1,q2,q3,q4,q5⟩:=hsame
        obtain ⟨m1,m2⟩:=hR.bump (low':=low') (src:=src) (w1:=w') (r2:=⟨r.b,r.lo,(c.take (off+len * ez)++src).length,r.sz⟩) g1 hg gl hlow
         (fun ver' r' hm' rc0 t0 fr0 hr0=>by
          by_cases hbb:r'.b=r.b
          ·rw [hbb] at hr0 ⊢
           rw [h0] at hr0;cases hr0
           have hs:=hR.sep _ _ _ _ _ _ hm' g1 hbb
           refine ⟨rc',k3,k4,fun j hj=>?_⟩
           rw [k5,if_neg (by omega)]
          ·exact ⟨rc0,by rw [q5 _ hbb];exact hr0,rfl,fun _ _=>rfl⟩)
         (fun b' _ hno=>q5 _ fun e=>hno _ _ g1 e.symm) (.inr ⟨rfl,rfl,rfl⟩) (by rw [q1];exact Nat.le_refl _) q2 q3 q4
         (by
          refine ⟨rc',tt,fr,k3,by rw [k4];exact h1,by rw [k4];exact h2,Nat.le_refl _,fun _=>rfl,fun h=>absurd h (Nat.lt_irrefl _),by simp only [hl2];omega,by simp only [hl2];omega,fun i v hv hlo hi _=>?_,hcone⟩
          rw [k5]
          simp only [Array.length_toList,hcr1.1,hlen]
          simp only [hl2] at hi
          simp only at hlo
          rw [List.getElem?_append] at hv
          have hlen3:(c.take (off+len * ez)).length=off+len * ez:=by simp;omega
          rw [hlen3] at hv
          split at hv
          ·rename_i hip
           rw [if_neg (by omega)]
           rw [List.getElem?_take,if_pos hip] at hv
           exact h8 i v hv hlo (by omega) (.inl rfl)
          ·rename_i hip
           rw [if_pos (by omega)]
           have hi2:i - r.lo - (off - r.lo+len * ez+0)=i - (off+len * ez):=by omega
           rw [hi2]
           have hlt:i - (off+len * ez)<new.size:=by rw [hcr1.1,hlen];omega
           exact ⟨new[i - (off+len * ez)],by simp [hlt],hcr1.2 _ v _ hv (by simp [hlt])⟩)
        refine ⟨.slice (some ⟨r.b,off - r.lo,none⟩) (len+n) cap,E.add id (ver+1) ⟨r.b,r.lo,(c.take (off+len * ez)++src).length,r.sz⟩,w',?_,m1,m2,Nat.le_refl _,?_⟩
        ·rw [hrun]
         simp only [addr_add]
         rw [k1]
         rfl
        ·refine .sl (r:=⟨r.b,r.lo,(c.take (off+len * ez)++src).length,r.sz⟩) Env.add_at g2 (by simp only [hl2];omega) hfit (fun h=>by cases h) (fun _=>⟨rfl,.inl ?_⟩)
         simp only
         rcases hrm with h | h <;> omega
       ·-- moved
        obtain ⟨c',hc',hrun⟩:=append_out (w:=w) (ts:=ts) (as:=as) (ty:=ty) hu hsz hd hz hn hn' hb hb1 hb0 hold hnew2 (by omega) hroom' hzv
        have hsize:(old++new2++Builtin.zeroCells zv.cells (c' - (len+n))).size=c' * ez:=by
         simp only [Array.size_append,zeroCells_size,hzs,hcr2.1,hlen,hcro.1,s1]
         exact hbig c' hc'
        have hle:(len+n) * ez≤c' * ez:=Nat.mul_le_mul_right _ hc'
        have hN:New w (w.drew.alloc (.cells (old++new2++Builtin.zeroCells zv.cells (c' - (len+n))) e)) (.cells (old++new2++Builtin.zeroCells zv.cells (c' - (len+n))) e):=⟨rfl,rfl,rfl,rfl⟩
        obtain ⟨m1,m2⟩:=hR.bump (low':=low') (src:=src) (w1:=w.drew.alloc (.cells (old++new2++Builtin.zeroCells zv.cells (c' - (len+n))) e)) (r2:=⟨w.heap.size,off,(c.take (off+len * ez)++src).length,c' * ez⟩) g1 hg gl hlow
         (fun ver' r' hm' rc0 t0 fr0 hr0=>⟨rc0,by rw [hN.old (hR.mu_lt hm')];exact hr0,rfl,fun _ _=>rfl⟩)
         (fun b' hb' _=>hN.old hb') (.inl rfl) (by rw [hN.heap];simp) rfl rfl rfl
         (by
          refine ⟨_,e,(0,0),hN.at_,hsize,fun _ _ h=>by omega,Nat.le_refl _,fun _=>rfl,fun h=>absurd h (Nat.lt_irrefl _),by simp only [hl2];omega,by simp only [hl2];omega,fun i v hv hlo hi _=>?_,hcone⟩
          simp only at hlo
          have:=row_split (c:=c) (p:=off+len * ez) (L:=len * ez) (old:=old) (rest:=Builtin.zeroCells zv.cells (c' - (len+n))) (E:=E) (by
           rw [show off+len * ez - len * ez=off from by omega,List.drop_take,show off+len * ez - off=len * ez from by omega];exact hcro) hcr2 gl (by omega) i v hv (by omega)
          rw [show off+len * ez - len * ez=off from by omega] at this
          exact this)
        refine ⟨_,_,_,hrun,m1,m2,Nat.le_refl _,?_⟩
        refine .sl (r:=⟨w.heap.size,off,(c.take (off+len * ez)++src).length,c' * ez⟩) Env.add_at (Nat.le_refl _) (by simp only [hl2];omega) hc' (fun h=>by cases h) (fun _=>⟨by simp,.inl (by simp)⟩)
      ·cases hv
    ·cases hv
   ·cases hv
  ·cases hv
end
end Am
namespace Am
open Go
variable {C:Ctx} {E:Env} {H:Heap} {w:World} {opd:Operand→Option Opd} {ls vs:List V} {ρ:Operand→Value}
variable {o:Oper} {k:AK} {h':Heap} {v:V}
theorem Yields.x {b:Builtin} {args:Array Operand} {ts:Array TypeId} (ho:o.op=.call { callee:=.builtin b,args:=args,argTypes:=ts }) {s:Sem Value}
  (hb:∀ cs,(builtin b ts o.type cs (args.map ρ)).run C.P w=(s.run C.P w).andThen fun y w'=>.ok (.value y) w') (h:Yields C E H w s v h'):XOk C E H w o ρ v h':=by
 obtain ⟨y,E',w',h1,h2,h3,h4,h5⟩:=h
 obtain ⟨cs,e⟩:=run_builtin (P:=C.P) (ρ:=ρ) ho w
 exact ⟨.value y,E',w',by rw [e,hb,h1];rfl,h2,h3,h4,.inr ⟨y,rfl,h5⟩⟩
theorem isInt_of {d:TypeDesc} (h:∀ k,d=.int k→False):isInt d=false:=by
 cases d <;> first | rfl | exact (h _ rfl).elim
theorem x_append {args:Array Operand} {ts:Array TypeId} (ho:o.op=.call { callee:=.builtin .append,args:=args,argTypes:=ts }) (hO:OpR E opd ls vs ρ args.toList) (hk:prepBuiltin C.P opd .append ts.toList args.toList=some k)
  (hv:opv k ls vs H=some (v,h')) (hR:R C E H w):XOk C E H w o ρ v h':=by
 match hts:ts.toList with
 | []=>simp [prepBuiltin,hts] at hk
 | [_]=>cases hargs:args.toList <;> simp [prepBuiltin,hts,hargs] at hk
 | t :: u :: ts'=>
 match hargs:args.toList with
 | []=>simp [prepBuiltin,hts,hargs] at hk
 | [_]=>simp [prepBuiltin,hts,hargs] at hk
 | S :: X :: rest=>
  simp only [prepBuiltin,hts,hargs] at hk
  have hta:ts=(t :: u :: ts').toArray:=by rw [← hts]
  have haa:args.map ρ=(ρ S :: ρ X :: rest.map ρ).toArray:=by apply Array.ext';simp [hargs]
  have hbu:∀ cs,(builtin .append ts o.type cs (args.map ρ)).run C.P w=((Builtin.append_ (t :: u :: ts').toArray o.type (ρ S :: ρ X :: rest.map ρ).toArray).run C.P w).andThen fun y w'=>.ok (.value y) w':=by
   intro cs
   rw [haa,hta]
   simp [builtin]
  have two:∀ w',w'=w∨w'=w.drew→R C E H w':=by
   rintro w' (rfl | rfl)
   ·exact hR
   ·exact hR.drew
  split at hk
  ·rename_i e kk hu hud
   split at hk
   ·rename_i esz b z zs zx hsz hb hz hs hx
    split at hk
    ·rename_i hcond
     simp only [Bool.and_eq_true,decide_eq_true_eq,beq_iff_eq] at hcond
     obtain ⟨⟨hb1,hb0⟩,hzl⟩:=hcond
     simp only [Option.some.injEq] at hk;subst hk
     obtain ⟨zv,hzr,hzv,hzo⟩:=zero_ok (E:=E) hz
     have hcr:=hzv.cr hzo
     have hzs:zv.cells.size=esz:=by rw [hcr.1,hzl]
     simp only [opv,o_appz] at hv
     split at hv
     ·rename_i SV N eS eN
      split at hv
      ·rename_i n hn
       split at hv
       ·rename_i hroom
        have hroom':n≤4294967296:=nble.1 hroom
        refine (app_ok hR hu hsz hud (zeros:=true) rfl (fun h=>by cases h) (fun _=>⟨natOf_int hn (hO X (by simp [hargs]) zx N hx eN),hroom'⟩) hb hb1 hb0 hzr hzs (by rw [length_rep,hzl]) (allOne_rep hzo n)
         (fun w' _=>?_) (hO S (by simp [hargs]) zs SV hs eS) hv).x ho hbu
        have hrep:=rep_rel (n:=n) hcr hzl
        by_cases h0:n * esz=0
        ·refine ⟨#[],by simp [appd,h0],?_⟩
         have:(rep n z.cells)=[]:=by
          have:=length_rep z.cells n
          rw [hzl,h0] at this
          exact List.length_eq_zero_iff.1 this
         rw [this]
         exact ⟨rfl,by simp⟩
        ·refine ⟨Builtin.zeroCells zv.cells n,by simp [appd,h0,hzr],?_⟩
         unfold Builtin.zeroCells
         rw [hzs]
         rw [hzs] at hrep
         exact hrep
       ·cases hv
      ·cases hv
     ·cases hv
    ·cases hk
   ·cases hk
  ·rename_i e du hno hu hud
   have hni:isInt du=false:=isInt_of fun k e=>hno k e
   split at hk
   ·rename_i esz b z zs zx hsz hb hz hs hx
    split at hk
    ·rename_i hcond
     simp only [Bool.and_eq_true,decide_eq_true_eq,beq_iff_eq] at hcond
     obtain ⟨⟨hb1,hb0⟩,hzl⟩:=hcond
     simp only [Option.some.injEq] at hk;subst hk
     obtain ⟨zv,hzr,hzv,hzo⟩:=zero_ok (E:=E) hz
     have hcr:=hzv.cr hzo
     have hzs:zv.cells.size=esz:=by rw [hcr.1,hzl]
     simp only [opv,o_app] at hv
     split at hv
     ·rename_i SV XV eS eX
      split at hv
      ·rename_i n src hsrc
       have hX:=hO X (by simp [hargs]) zx XV hx eX
       obtain ⟨g1,g2,g3,_⟩:=src_ok hR hsrc hX
       refine (app_ok hR hu hsz hud (zeros:=false) hni (fun _=>g3) (fun h=>by cases h) hb hb1 hb0 hzr hzs g1 g2 (fun w' hw'=>?_) (hO S (by simp [hargs]) zs SV hs eS) hv).x ho hbu
       obtain ⟨_,_,_,g4⟩:=src_ok (two w' hw') hsrc hX
       obtain ⟨xs,q1,q2⟩:=g4 n (Nat.le_refl _)
       rw [List.take_of_length_le (by rw [g1];exact Nat.le_refl _)] at q2
       exact ⟨xs,by simp [appd,q1],q2⟩
      ·cases hv
     ·cases hv
    ·cases hk
   ·cases hk
  ·cases hk
theorem x_copy {args:Array Operand} {ts:Array TypeId} (ho:o.op=.call { callee:=.builtin .copy,args:=args,argTypes:=ts }) (hO:OpR E opd ls vs ρ args.toList) (hk:prepBuiltin C.P opd .copy ts.toList args.toList=some k)
  (hv:opv k ls vs H=some (v,h')) (hR:R C E H w):XOk C E H w o ρ v h':=by
 match hts:ts.toList with
 | []=>simp [prepBuiltin,hts] at hk
 | t :: ts'=>
 match hargs:args.toList with
 | []=>simp [prepBuiltin,hts,hargs] at hk
 | [_]=>simp [prepBuiltin,hts,hargs] at hk
 | D :: S :: rest=>
  simp only [prepBuiltin,hts,hargs] at hk
  have hta:ts=(t :: ts').toArray:=by rw [← hts]
  have haa:args.map ρ=(ρ D :: ρ S :: rest.map ρ).toArray:=by apply Array.ext';simp [hargs]
  have hbu:∀ cs,(builtin .copy ts o.type cs (args.map ρ)).run C.P w=((Builtin.copy_ (t :: ts').toArray o.type (ρ D :: ρ S :: rest.map ρ).toArray).run C.P w).andThen fun y w'=>.ok (.value y) w':=by
   intro cs
   rw [haa,hta]
   simp [builtin]
  split at hk
  ·rename_i e hu
   split at hk
   ·rename_i esz zd zs hsz hd hs
    simp only [Option.some.injEq] at hk;subst hk
    simp only [opv,o_copy] at hv
    split at hv
    ·rename_i DV SV eD eS
     have hD:=hO D (by simp [hargs]) zd DV hd eD
     have hS:=hO S (by simp [hargs]) zs SV hs eS
     split at hv
     ·rename_i n src hsrc
      obtain ⟨g1,g2,g3,g4⟩:=src_ok hR hsrc hS
      split at hv
      ·simp only [Option.some.injEq,Prod.mk.injEq] at hv
       obtain ⟨rfl,rfl⟩:=hv
       obtain ⟨xs,q1,q2⟩:=g4 0 (Nat.zero_le _)
       refine Yields.x ho hbu ⟨goInt 0,E,w,?_,hR,.refl _ _ _,Nat.le_refl _,.int _ _⟩
       simp [Builtin.copy_,run_underlying hu,hD.nils_inv,g3,size_ok hsz,q1]
      ·rename_i id off len ver ez full
       split at hv
       ·rename_i c cur low hg
        split at hv
        ·rename_i hcond
         simp only [Bool.and_eq_true,nbeq,nble] at hcond
         obtain ⟨⟨rfl,rfl⟩,hle⟩:=hcond
         simp only [Option.some.injEq,Prod.mk.injEq] at hv
         obtain ⟨rfl,rfl⟩:=hv
         rw [minN_eq]
         obtain ⟨xs,q1,q2⟩:=g4 (min n len) (Nat.min_le_left _ _)
         generalize hρ:ρ D=rd at hD
         cases hD with
         | @sl _ _ _ _ _ _ r a cap k1 k2 k3 k4 k5 k6=>
          have hl:(src.take (min n len * ez)).length=min n len * ez:=by
           rw [List.length_take,g1]
           have:min n len * ez≤n * ez:=Nat.mul_le_mul_right _ (Nat.min_le_left _ _)
           omega
          have hl2:min n len * ez≤len * ez:=Nat.mul_le_mul_right _ (Nat.min_le_right _ _)
          obtain ⟨w',e1,e2,e3⟩:=hR.write (P:=C.P) (ys:=xs.toList) k1 hg k2 (by rw [hl];omega) (by simpa using q2.1) (allOne_iff.2 fun v hv=>allOne_iff.1 g2 v (List.mem_of_mem_take hv)) (fun i v y hv hy=>q2.2 i v y hv (by simpa using hy))
          have hcap:xs = #[]∨a=⟨r.b,off - r.lo,none⟩:=by
           by_cases hc:cap=0
           ·have hm:min n len=0:=by omega
            rw [hm] at q2
            left
            have:=q2.1
            simp at this
            exact this
           ·exact .inr (k6 hc).1
          refine Yields.x ho hbu ⟨goInt (min n len:Nat),E,w',?_,e2,e3,Nat.le_refl _,.int _ _⟩
          rw [hρ]
          rcases hcap with rfl | rfl
          ·simp only [storeCells,Sem.run_pure,Result.ok.injEq,true_and] at e1
           subst e1
           simp [Builtin.copy_,run_underlying hu,g3,size_ok hsz,q1,storeCells]
          ·simp [Builtin.copy_,run_underlying hu,g3,size_ok hsz,q1,e1]
        ·cases hv
       ·cases hv
      ·cases hv
     ·cases hv
    ·cases hv
   ·cases hk
  ·cases hk
end Am
namespace Am
open Go
variable {C:Ctx} {E:Env} {H:Heap} {w:World} {opd:Operand→Option Opd} {ls vs:List V} {ρ:Operand→Value}
variable {o:Oper} {k:AK} {h':Heap} {v:V}
def okCl:Op→Cl→Prop
 | .alloc _,c | .box ..,c | .buildSlice ..,c | .makeMap ..,c | .makeSlice ..,c | .range ..,c=>c=.a
 | .load ..,c | .lookup ..,c=>c=.l
 | .store ..,c | .mapUpdate ..,c | .insert ..,c | .next ..,c=>c=.x
 | .convert ..,c=>c=.p∨c=.l∨c=.a
 | .call { callee:=.builtin .len,.. },c=>c=.p∨c=.l
 | .call { callee:=.builtin .append,.. },c | .call { callee:=.builtin .copy,.. },c | .call { callee:=.builtin .delete,.. },c=>c=.x
 | .call { callee:=.builtin .max,.. },c | .call { callee:=.builtin .min,.. },c=>c=.p
 | .call { callee:=.value (.func _),.. },c=>c=.x∨c=.p
 | .call { callee:=.value _,.. },c=>c=.x
 | .call _,_=>False
 | _,c=>c=.p
theorem builtin_cl {b:Builtin} {ts:List TypeId} {args:List Operand} (h:prepBuiltin C.P opd b ts args=some k) :
  match b with
  | .len=>k.cl=.p∨k.cl=.l
  | .append | .copy | .delete=>k.cl=.x
  | .max | .min=>k.cl=.p
  | _=>False:=by
 cases b
 all_goals (rcases ts with _ | ⟨t,_ | ⟨u,ts⟩⟩ <;> rcases args with _ | ⟨x,_ | ⟨y,as⟩⟩)
 all_goals simp only [prepBuiltin,reduceCtorEq] at h
 all_goals (repeat' split at h)
 all_goals first
  | contradiction
  | (obtain ⟨z,_,rfl⟩:=map_some h;simp [AK.cl];done)
  | (simp only [Option.some.injEq] at h;subst h;simp [AK.cl];done)
theorem prep_cl (h:prepOp C.P opd o.op=some k):okCl o.op k.cl:=by
 cases hop:o.op
 all_goals rw [hop] at h
 all_goals try (simp only [prepOp,reduceCtorEq] at h;done)
 case call c=>
  obtain ⟨callee,args,ats⟩:=c
  cases callee with
  | builtin b=>
   have:=builtin_cl (C:=C) (opd:=opd) (k:=k) (b:=b) (ts:=ats.toList) (args:=args.toList) (by simpa only [prepOp] using h)
   cases b <;> simp only [okCl] <;> simp only at this <;> exact this
  | invoke r m=>simp [prepOp] at h
  | value x=>
   cases x
   case func f=>
    simp only [prepOp] at h
    simp only [okCl]
    repeat' split at h
    all_goals first
     | contradiction
     | (obtain ⟨z,_,rfl⟩:=Option.map_eq_some_iff.1 h;simp [AK.cl];done)
     | (simp only [Option.some.injEq] at h;subst h;simp [AK.cl];done)
   all_goals
    simp only [prepOp] at h
    simp only [okCl]
    repeat' split at h
    all_goals first
     | contradiction
     | (simp only [Option.some.injEq] at h;subst h;simp [AK.cl];done)
 all_goals
  unfold prepOp at h
  simp only [okCl]
  repeat' split at h
  all_goals first
   | contradiction
   | (obtain ⟨z,_,rfl⟩:=Option.map_eq_some_iff.1 h;simp [AK.cl];done)
   | (simp only [Option.some.injEq] at h;subst h;simp [AK.cl];done)
end Am
namespace Am
open Go
variable {C:Ctx} {E:Env} {H:Heap} {w:World} {opd:Operand→Option Opd} {ls vs:List V} {ρ:Operand→Value}
variable {o:Oper} {k:AK} {h':Heap} {v:V}
theorem p_all (hρ:∀ f,ρ (.func f)=.func (.func f) #[] #[]) (hO:OpR E opd ls vs ρ o.op.operands.toList) (hk:prepOp C.P opd o.op=some k) (hc:k.cl=.p) (hv:opv k ls vs H=some (v,h')):h'=H∧PDoes C.P E ρ o v:=by
 have hcl:=prep_cl hk
 rw [hc] at hcl
 cases hop:o.op
 all_goals rw [hop] at hk hO hcl
 all_goals try (simp [prepOp] at hk;done)
 all_goals try (simp [okCl] at hcl;done)
 case move x=>exact p_mv (.inl hop) (by simpa [Op.operands] using hO) (by simpa [prepOp] using hk) hv
 case assign x=>exact p_mv (.inr hop) (by simpa [Op.operands] using hO) (by simpa [prepOp] using hk) hv
 case pick c a b=>exact p_pick hop (by simpa [Op.operands] using hO) hk hv
 case build t ps=>exact p_build hop (by simpa [Op.operands] using hO) hk hv
 case nilCheck x=>exact p_nilck hop (by simpa [Op.operands] using hO) hk hv
 case binOp=>exact p_bin hop (by simpa [Op.operands] using hO) hk hv
 case unOp=>exact p_un hop (by simpa [Op.operands] using hO) hk hv
 case convert=>exact p_convert hop (by simpa [Op.operands] using hO) hk hc hv
 case makeInterface=>exact p_makeI hop (by simpa [Op.operands] using hO) hk hv
 case makeFunc c a b=>
  cases c
  all_goals try (simp [prepOp] at hk;done)
  exact p_makeF hop (by simpa [Op.operands] using hO) hk hv
 case slice=>exact p_slice hop (by simpa [Op.operands] using hO) hk hv
 case fieldAddr=>exact p_fieldAddr hop (by simpa [Op.operands] using hO) hk hv
 case field=>exact p_field hop (by simpa [Op.operands] using hO) hk hv
 case indexAddr=>exact p_indexAddr hop (by simpa [Op.operands] using hO) hk hv
 case index=>exact p_index hop (by simpa [Op.operands] using hO) hk hv
 case typeAssert=>exact p_typeAssert hop (by simpa [Op.operands] using hO) hk hv
 case extract=>exact p_extract hop (by simpa [Op.operands] using hO) hk hv
 case call c=>
  obtain ⟨callee,args,ats⟩:=c
  cases callee with
  | builtin b=>
   have hO':OpR E opd ls vs ρ args.toList:=by simpa [Op.operands,Call.operands] using hO
   cases b
   all_goals try (simp [okCl] at hcl;done)
   case len=>exact p_len hop hO' (by simpa only [prepOp] using hk) hc hv
   case max=>exact p_mx (.inl rfl) hop hO' (by simpa only [prepOp] using hk) hv
   case min=>exact p_mx (.inr rfl) hop hO' (by simpa only [prepOp] using hk) hv
  | invoke r m=>simp [okCl] at hcl
  | value x=>
   cases x
   all_goals try (simp [okCl] at hcl;done)
   case func f=>exact p_extern hop (hρ f) (fun y hy=>hO y (by simp only [Op.operands,Call.operands];simp at hy ⊢;exact .inr hy)) hk hc hv
theorem l_all (hO:OpR E opd ls vs ρ o.op.operands.toList) (hk:prepOp C.P opd o.op=some k) (hc:k.cl=.l) (hv:opv k ls vs H=some (v,h')) (hR:R C E H w):h'=H∧∃ r,(execOp ρ o).run C.P w=.ok (.value r) w∧VR E v r:=by
 have hcl:=prep_cl hk
 rw [hc] at hcl
 cases hop:o.op
 all_goals rw [hop] at hk hO hcl
 all_goals try (simp [prepOp] at hk;done)
 all_goals try (simp [okCl] at hcl;done)
 case load=>exact l_load hop (by simpa [Op.operands] using hO) hk hv hR
 case convert=>exact l_toStr hop (by simpa [Op.operands] using hO) hk hc hv hR
 case lookup=>exact l_lookup hop (by simpa [Op.operands] using hO) hk hv hR
 case call c=>
  obtain ⟨callee,args,ats⟩:=c
  cases callee with
  | builtin b=>
   have hO':OpR E opd ls vs ρ args.toList:=by simpa [Op.operands,Call.operands] using hO
   cases b
   all_goals try (simp [okCl] at hcl;done)
   case len=>exact l_lenMap hop hO' (by simpa only [prepOp] using hk) hc hv hR
  | invoke r m=>simp [okCl] at hcl
  | value x=>cases x <;> simp [okCl] at hcl
theorem a_all (hO:OpR E opd ls vs ρ o.op.operands.toList) (hk:prepOp C.P opd o.op=some k) (hc:k.cl=.a) (hv:opv k ls vs H=some (v,h')):∃ obj f,v=f H.n∧h'=H.alloc obj∧∀ w,AOk C.P E o ρ obj f w:=by
 have hcl:=prep_cl hk
 rw [hc] at hcl
 cases hop:o.op
 all_goals rw [hop] at hk hO hcl
 all_goals try (simp [prepOp] at hk;done)
 all_goals try (simp [okCl] at hcl;done)
 case alloc=>exact a_alloc hop hk hv
 case box=>exact a_box hop (by simpa [Op.operands] using hO) hk hv
 case buildSlice=>exact a_bslice hop (by simpa [Op.operands] using hO) hk hv
 case convert=>exact a_toBytes hop (by simpa [Op.operands] using hO) hk hc hv
 case makeMap t r=>
  cases r
  ·exact a_mkM hop hk hv
  ·simp [prepOp] at hk
 case makeSlice=>exact a_mkS hop (by simpa [Op.operands] using hO) hk hv
 case range=>exact a_range hop (by simpa [Op.operands] using hO) hk hv
 case call c=>
  obtain ⟨callee,args,ats⟩:=c
  cases callee with
  | builtin b=>cases b <;> simp [okCl] at hcl
  | invoke r m=>simp [okCl] at hcl
  | value x=>cases x <;> simp [okCl] at hcl
theorem x_all (hO:OpR E opd ls vs ρ o.op.operands.toList) (hk:prepOp C.P opd o.op=some k) (hc:k.cl=.x) (hv:opv k ls vs H=some (v,h')) (hR:R C E H w):XOk C E H w o ρ v h':=by
 have hcl:=prep_cl hk
 rw [hc] at hcl
 cases hop:o.op
 all_goals rw [hop] at hk hO hcl
 all_goals try (simp [prepOp] at hk;done)
 all_goals try (simp [okCl] at hcl;done)
 case store=>exact x_store hop (by simpa [Op.operands] using hO) hk hv hR
 case mapUpdate=>exact x_mput (.inl hop) (by simpa [Op.operands] using hO) hk hv hR
 case insert=>exact x_mput (.inr hop) (by simpa [Op.operands] using hO) (by simpa only [prepOp] using hk) hv hR
 case next x ok=>
  cases ok with
  | false=>simp [prepOp] at hk
  | true=>
   simp only [prepOp] at hk
   obtain ⟨z,_,rfl⟩:=map_some hk
   simp [opv] at hv
 case call c=>
  obtain ⟨callee,args,ats⟩:=c
  cases callee with
  | builtin b=>
   have hO':OpR E opd ls vs ρ args.toList:=by simpa [Op.operands,Call.operands] using hO
   cases b
   all_goals try (simp [okCl] at hcl;done)
   case append=>exact x_append hop hO' (by simpa only [prepOp] using hk) hv hR
   case copy=>exact x_copy hop hO' (by simpa only [prepOp] using hk) hv hR
   case delete=>exact x_mdel hop hO' (by simpa only [prepOp] using hk) hv hR
  | invoke r m=>simp [okCl] at hcl
  | value x=>
   exfalso
   have:(∃ f l,k=.call f l)∨(∃ f l,k=.callv f l)∨k.cl=.p:=by
    cases x
    all_goals
     simp only [prepOp] at hk
     repeat' split at hk
     all_goals first
      | contradiction
      | (obtain ⟨z,_,rfl⟩:=Option.map_eq_some_iff.1 hk;exact .inl ⟨_,_,rfl⟩)
      | (simp only [Option.some.injEq] at hk;subst hk;first | exact .inr (.inl ⟨_,_,rfl⟩) | exact .inr (.inr rfl))
   rcases this with ⟨f,l,rfl⟩ | ⟨f,l,rfl⟩ | h
   ·simp [opv] at hv
   ·simp [opv] at hv
   ·rw [h] at hc;cases hc
end Am
namespace Am
open Go
structure Rg where
 C:Ctx
 l:List Oper
 hang:Nat→Nat→Bool
 slots:List Tmp
 vs:List V
 val:Nat→V
def Writes (l:List Oper) (j:Nat) (t:Tmp):Prop:=∃ o,l[j]? = some o∧o.dst=some t
def LastW (l:List Oper) (t:Tmp) (i:Nat):Option Nat→Prop
 | some j=>j<i∧Writes l j t∧∀ j',j'<i→Writes l j' t→j'≤j
 | none=>∀ j',j'<i→¬ Writes l j' t
variable (g:Rg)
def Rg.TmpR (E:Env) (a:Act) (i:Nat) (t:Tmp):Prop:=
 (∀ j,LastW g.l t i (some j)→VR E (g.val j) (a.eval (.tmp t)))∧
 (LastW g.l t i none→∀ (s:Nat) (v:V),g.slots.idxOf? t=some s→g.vs[s]? = some v→VR E v (a.eval (.tmp t)))
def Rg.Rel (E:Env) (a:Act) (i:Nat) (o:Oper):Prop:=∀ t,.tmp t∈o.op.operands.toList→g.TmpR E a i t
def Rg.Ev (i:Nat) (o:Oper) (k:AK) (H0 H1:Heap):Prop:=
 ∃ opd ls,(∀ E H w a,R g.C E H w→g.Rel E a i o→OpR E opd ls g.vs a.eval o.op.operands.toList)∧prepOp g.C.P opd o.op=some k∧opv k ls g.vs H0=some (g.val i,H1)
def Rg.Skip (i:Nat) (o:Oper):Prop:=g.val i=.tuple []∧∃ j want,o.guard=some (j,want)∧(g.val j≠.any∧∀ s,g.val j≠.sym s)∧g.val j≠.bool want
def Rg.Go (o:Oper):Prop:=o.guard=none∨∃ j want,o.guard=some (j,want)∧g.val j=.bool want
def Alike:Obj→Obj→Prop
 | .cells c v _,.cells c' v' _=>c=c'∧v=0∧v'=0
 | a,b=>a=b
def Rg.Pend (H:Heap) (i:Nat) (id:Option Nat):Prop:=
 ∃ o,g.l[i]? = some o∧((g.Skip i o∧id=none)∨(g.Go o∧∃ k,
  (k.cl=.p∧id=none∧∃ H0 H1,g.Ev i o k H0 H1)∨
  (k.cl=.l∧id=none∧g.Ev i o k H H)∨
  (k.cl=.a∧∃ H0 H1 ob ob',id=some H0.n∧g.Ev i o k H0 H1∧H0.n<H.n∧H1.get H0.n=some ob∧H.get H0.n=some ob'∧Alike ob ob')))
def Rg.XDo (i:Nat) (o:Oper) (H H':Heap):Prop:=
 (g.Skip i o∧H'=H)∨(g.Go o∧∀ E a w,R g.C E H w→g.Rel E a i o→∀ (K:Act→World→Prop) (Q:Exit→Act→World→Prop),
  (∀ E' w' x,R g.C E' H' w'→Good H.n E w E' w'→VR E' (g.val i) x→K (a.put o.dst x) w')→o.wp g.C.P a w K Q)
def Rg.XAt (D:List (Nat×Option Nat)) (H:Heap) (i:Nat) (H':Heap):Prop:=
 (∃ o,g.l[i]? = some o∧g.XDo i o H H')∧H.n≤H'.n∧∀ j id,(j,id)∈D→g.hang i j=false→g.Pend H' j id
def Rg.Free (i:Nat) (H H':Heap) (id:Option Nat):Prop:=
 g.Pend H' i id∧((H'=H∧id=none)∨∃ ob,H'=H.alloc ob∧id=some H.n)
def Same (H H':Heap):Prop:=H.n=H'.n∧∀ id,H.get id=H'.get id
inductive Tr:List (Nat×Option Nat)→Heap→List Nat→Heap→Prop where
 | nil {D H} : Tr D H [] H
 | free {D H H' i id r HF} (h:g.Free i H H' id) (t:Tr ((i,id) :: D) H' r HF):Tr D H (i :: r) HF
 | x {D H H' i r HF} (hr:∀ j∈r,g.hang j i=true) (h:g.XAt D H i H') (t:Tr ((i,none) :: D) H' r HF):Tr D H (i :: r) HF
 | two {D H H1 H2 i j Ha Hb HF} (h1:g.XAt D H i H1) (k1:g.XAt D H1 j Ha) (h2:g.XAt D H j H2) (k2:g.XAt D H2 i Hb) (ha:Same Ha HF) (hb:Same Hb HF):Tr D H [i,j] HF
structure Rg.Laws:Prop where
 tmps:∀ i o,g.l[i]? = some o→∀ t,(o.dst=some t∨.tmp t∈o.op.operands.toList∨∃ j want oj,o.guard=some (j,want)∧g.l[j]? = some oj∧oj.dst=some t)→
  ∀ j,Writes g.l j t→j=i∨(j<i∧g.hang i j=true)∨(i<j∧g.hang j i=true)
 guard:∀ i o j want,g.l[i]? = some o→o.guard=some (j,want)→∃ oj d,g.l[j]? = some oj∧oj.dst=some d∧LastW g.l d i (some j)
variable {g}
theorem Tr.sub {D:List (Nat×Option Nat)} {H HF:Heap} {r:List Nat} (t:Tr g D H r HF):∀ i∈r,∃ o,g.l[i]? = some o:=by
 induction t with
 | nil=>simp
 | free h t ih=>
  intro i hi
  rcases List.mem_cons.1 hi with rfl | hi
  ·obtain ⟨⟨o,ho,_⟩,_⟩:=h;exact ⟨o,ho⟩
  ·exact ih i hi
 | x hr h t ih=>
  intro i hi
  rcases List.mem_cons.1 hi with rfl | hi
  ·obtain ⟨⟨o,ho,_⟩,_⟩:=h;exact ⟨o,ho⟩
  ·exact ih i hi
 | two h1 k1 h2 k2 ha hb=>
  intro i hi
  simp only [List.mem_cons,List.not_mem_nil,or_false] at hi
  rcases hi with rfl | rfl
  ·obtain ⟨⟨o,ho,_⟩,_⟩:=h1;exact ⟨o,ho⟩
  ·obtain ⟨⟨o,ho,_⟩,_⟩:=h2;exact ⟨o,ho⟩
structure Rg.Inv0 (g:Rg) (E0:Env) (H0:Heap) (w0:World) (a0:Act) (N:Nat) (S:Nat→Prop) (E:Env) (D:List (Nat×Option Nat)) (H:Heap) (a:Act) (w:World):Prop where
 rel:R g.C E H w
 good:Good H0.n E0 w0 E w
 grow:H0.n≤H.n
 sub:∀ i,S i→∃ id,(i,id)∈D
 pend:∀ i id,(i,id)∈D→¬ S i→g.Pend H i id
 dist:∀ i j id,(i,some id)∈D→(j,some id)∈D→i=j
 bound:∀ i id,(i,some id)∈D→H0.n≤id∧id<H.n
 unborn:∀ i id,(i,some id)∈D→¬ S i→∀ ver,E.mu id ver=none
 down:∀ i j,S i→g.hang i j=true→S j
 wrote:∀ t j,Writes g.l j t→S j→(∀ j',Writes g.l j' t→S j'→j'≤j)→VR E (g.val j) (a.eval (.tmp t))
 kept:∀ t,(∀ j,Writes g.l j t→¬ S j)→a.eval (.tmp t)=a0.eval (.tmp t)
 size:a.tmps.size=N
 defers:a.defers=a0.defers
def Stop (g:Rg) (D:List (Nat×Option Nat)) (H:Heap) (r:List Nat) (HF:Heap):Prop:=
 (r=[]∧HF=H)∨
 (∃ i r' H',r=i :: r'∧(∀ j∈r',g.hang j i=true)∧g.XAt D H i H'∧Tr g ((i,none) :: D) H' r' HF)∨
 (∃ i j H1 H2 Ha Hb,r=[i,j]∧g.XAt D H i H1∧g.XAt D H1 j Ha∧g.XAt D H j H2∧g.XAt D H2 i Hb∧Same Ha HF∧Same Hb HF)
end Am
namespace Am
open Go
def Heap.Sub (H H':Heap):Prop:=∀ id o,H.get id=some o→H'.get id=some o
theorem rd_sub {H H':Heap} (h:H.Sub H') {ag:Bool} {n:Nat} {a v:V} (hr:rd H ag n a=some v):rd H' ag n a=some v:=by
 unfold rd at hr ⊢
 split at hr
 ·split at hr
  ·rename_i hg
   rw [h _ _ hg]
   exact hr
  ·cases hr
 ·exact hr
 ·cases hr
theorem srcCells_sub {H H':Heap} (h:H.Sub H') {esz:Nat} {a:V} {r:Nat×List V} (hr:srcCells H esz a=some r):srcCells H' esz a=some r:=by
 unfold srcCells at hr ⊢
 split at hr
 ·exact hr
 ·exact hr
 ·exact hr
 ·split at hr
  ·rename_i hg
   rw [h _ _ hg]
   exact hr
  ·cases hr
 ·cases hr
theorem lookV_sub {H H':Heap} (h:H.Sub H') {kk:KK} {z m k v:V} {ok:Bool} (hr:lookV H kk z ok m k=some v):lookV H' kk z ok m k=some v:=by
 unfold lookV at hr ⊢
 split at hr
 ·cases hr
 ·split at hr
  ·exact hr
  ·split at hr
   ·rename_i hg
    simp only [h _ _ hg]
    exact hr
   ·cases hr
  ·cases hr
theorem lenMap_sub {H H':Heap} (h:H.Sub H') {m v:V} (hr:lenV H .map m=some v):lenV H' .map m=some v:=by
 unfold lenV at hr ⊢
 split at hr
 all_goals first
  | (split at hr
     ·rename_i hg
      simp only [h _ _ hg]
      exact hr
     ·cases hr)
  | exact hr
  | cases hr
theorem keep_sub {H H':Heap} {a b:Option V} {v:V} {h1:Heap} (h:∀ v,a=some v→b=some v) (hk:keep H a=some (v,h1)):keep H' b=some (v,H'):=by
 obtain ⟨e,rfl⟩:=keep_some hk
 rw [h _ e];rfl
theorem opv_l_sub {H H':Heap} (h:H.Sub H') {k:AK} (hc:k.cl=.l) {ls vs:List V} {v:V} {h1:Heap} (hv:opv k ls vs H=some (v,h1)):opv k ls vs H'=some (v,H'):=by
 cases k <;> simp [AK.cl] at hc
 ·simp only [opv,o_load] at hv ⊢
  split at hv
  ·exact keep_sub (fun _=>rd_sub h) hv
  ·cases hv
 ·simp only [opv,o_toStr] at hv ⊢
  split at hv
  ·split at hv
   ·split at hv
    ·rename_i hs
     simp only [srcCells_sub h hs]
     split at hv
     ·simp only [Option.some.injEq,Prod.mk.injEq] at hv ⊢
      exact ⟨hv.1,trivial⟩
     ·cases hv
    ·cases hv
   ·cases hv
  ·cases hv
 ·simp only [opv,o_look] at hv ⊢
  split at hv
  ·exact keep_sub (fun _=>lookV_sub h) hv
  ·cases hv
 ·rename_i q x
  cases q <;> simp at hc
  simp only [opv,o_len] at hv ⊢
  split at hv
  ·exact keep_sub (fun _=>lenMap_sub h) hv
  ·cases hv
theorem Heap.sub_alloc {H:Heap} (hw:∀ id,H.n≤id→H.get id=none) (ob:Obj):H.Sub (H.alloc ob):=by
 intro id o ho
 have:id≠H.n:=fun e=>by rw [e,hw _ (Nat.le_refl _)] at ho;cases ho
 rw [Heap.get_alloc,if_neg this]
 exact ho
variable {g:Rg} {E0 E:Env} {H0 H HF:Heap} {w0 w:World} {a0 a:Act} {N:Nat} {S:Nat→Prop} {D:List (Nat×Option Nat)}
theorem Rg.Pend.sub {H':Heap} {i:Nat} {id:Option Nat} (h:g.Pend H i id) (hs:H.Sub H') (hn:H.n≤H'.n):g.Pend H' i id:=by
 obtain ⟨o,ho,h⟩:=h
 refine ⟨o,ho,?_⟩
 rcases h with h | ⟨hg,k,h⟩
 ·exact .inl h
 ·refine .inr ⟨hg,k,?_⟩
  rcases h with h | ⟨h1,h2,opd,ls,h3,h4,h5⟩ | ⟨h1,A0,A1,ob,ob',h2,h3,h4,h5,h6,h7⟩
  ·exact .inl h
  ·exact .inr (.inl ⟨h1,h2,opd,ls,h3,h4,opv_l_sub hs h1 h5⟩)
  ·exact .inr (.inr ⟨h1,A0,A1,ob,ob',h2,h3,by omega,h5,hs _ _ h6,h7⟩)
theorem Rg.Inv0.roll {r:List Nat} (t:Tr g D H r HF) (h:g.Inv0 E0 H0 w0 a0 N S E D H a w) (hnd:r.Nodup) (hdis:∀ i∈r,∀ id,(i,id)∉D) :
  ∃ D' H' r',g.Inv0 E0 H0 w0 a0 N S E D' H' a w∧Stop g D' H' r' HF∧r'.Nodup∧(∀ i∈r',∀ id,(i,id)∉D')∧∀ i,((∃ id,(i,id)∈D)∨i∈r)→((∃ id,(i,id)∈D')∨i∈r'):=by
 induction t with
 | nil=>exact ⟨_,_,[],h,.inl ⟨rfl,rfl⟩,hnd,hdis,fun i hi=>hi⟩
 | x hr hx t ih=>exact ⟨_,_,_,h,.inr (.inl ⟨_,_,_,rfl,hr,hx,t⟩),hnd,hdis,fun i hi=>hi⟩
 | two h1 t1 h2 t2 ha hb=>exact ⟨_,_,_,h,.inr (.inr ⟨_,_,_,_,_,_,rfl,h1,t1,h2,t2,ha,hb⟩),hnd,hdis,fun i hi=>hi⟩
 | @free D H H' i id r HF hf t ih=>
  obtain ⟨hp,hh⟩:=hf
  have hnS:¬ S i:=fun hs=>by obtain ⟨id',hi⟩:=h.sub i hs;exact hdis i (by simp) id' hi
  have key:g.Inv0 E0 H0 w0 a0 N S E ((i,id) :: D) H' a w:=by
   have hsub:H.Sub H'∧H.n≤H'.n∧R g.C E H' w:=by
    rcases hh with ⟨rfl,_⟩ | ⟨ob,rfl,_⟩
    ·exact ⟨fun _ _ h=>h,Nat.le_refl _,h.rel⟩
    ·exact ⟨Heap.sub_alloc h.rel.wf ob,Nat.le_succ _,h.rel.alloc ob⟩
   have hid:∀ q,id=some q→q=H.n∧q<H'.n:=by
    rintro q rfl
    rcases hh with ⟨_,e⟩ | ⟨ob,rfl,e⟩
    ·cases e
    ·simp only [Option.some.injEq] at e;subst e;exact ⟨rfl,Nat.lt_succ_self _⟩
   refine ⟨hsub.2.2,h.good,Nat.le_trans h.grow hsub.2.1,fun j hj=>?_,fun j jd hj hs=>?_,fun j j' q hj hj'=>?_,fun j q hj=>?_,fun j q hj hs=>?_,h.down,h.wrote,h.kept,h.size,h.defers⟩
   ·obtain ⟨jd,hjd⟩:=h.sub j hj;exact ⟨jd,List.mem_cons_of_mem _ hjd⟩
   ·rcases List.mem_cons.1 hj with e | hj
    ·cases e;exact hp
    ·exact (h.pend j jd hj hs).sub hsub.1 hsub.2.1
   ·rcases List.mem_cons.1 hj with e | p <;> rcases List.mem_cons.1 hj' with e' | p'
    ·cases e;cases e';rfl
    ·cases e;have:=(h.bound _ _ p').2;have:=(hid q rfl).1;omega
    ·cases e';have:=(h.bound _ _ p).2;have:=(hid q rfl).1;omega
    ·exact h.dist j j' q p p'
   ·rcases List.mem_cons.1 hj with e | hj
    ·cases e;have:=hid q rfl;exact ⟨by rw [this.1];exact h.grow,this.2⟩
    ·have:=h.bound _ _ hj;exact ⟨this.1,by omega⟩
   ·rcases List.mem_cons.1 hj with e | hj
    ·cases e;rw [(hid q rfl).1];exact fun ver=>h.rel.fresh (Nat.le_refl _) ver
    ·exact h.unborn j q hj hs
  obtain ⟨hnd1,hnd2⟩:=List.nodup_cons.1 hnd
  obtain ⟨D',H'',r',k1,k2,k3,k4,k5⟩:=ih key hnd2 (fun j hj jd hjd=>by
   rcases List.mem_cons.1 hjd with e | hjd
   ·cases e;exact hnd1 hj
   ·exact hdis j (by simp [hj]) jd hjd)
  refine ⟨D',H'',r',k1,k2,k3,k4,fun j hj=>k5 j ?_⟩
  rcases hj with ⟨jd,hjd⟩ | hj
  ·exact .inl ⟨jd,by simp [hjd]⟩
  ·rcases List.mem_cons.1 hj with rfl | hj
   ·exact .inl ⟨id,by simp⟩
   ·exact .inr hj
def Rg.V0 (g:Rg) (E0:Env) (a0:Act):Prop:=∀ (t:Tmp) (s:Nat) (v:V),g.slots.idxOf? t=some s→g.vs[s]? = some v→VR E0 v (a0.eval (.tmp t))
theorem Rg.Inv0.tmpR (h:g.Inv0 E0 H0 w0 a0 N S E D H a w) (hL:g.Laws) (h0:g.V0 E0 a0) {i:Nat} {o:Oper} (ho:g.l[i]? = some o) (hi:¬ S i) (hready:∀ j,g.hang i j=true→S j) {t:Tmp}
  (ht:o.dst=some t∨.tmp t∈o.op.operands.toList∨∃ j want oj,o.guard=some (j,want)∧g.l[j]? = some oj∧oj.dst=some t):g.TmpR E a i t:=by
 have low:∀ j',Writes g.l j' t→S j'→j'<i:=by
  intro j' hw hs
  rcases hL.tmps i o ho t ht j' hw with rfl | ⟨h1,_⟩ | ⟨_,h2⟩
  ·exact absurd hs hi
  ·exact h1
  ·exact absurd (h.down _ _ hs h2) hi
 have high:∀ j',j'<i→Writes g.l j' t→S j':=by
  intro j' hlt hw
  rcases hL.tmps i o ho t ht j' hw with rfl | ⟨_,h1⟩ | ⟨h2,_⟩
  ·omega
  ·exact hready _ h1
  ·omega
 constructor
 ·rintro j ⟨h1,h2,h3⟩
  exact h.wrote t j h2 (high j h1 h2) fun j' hw hs=>h3 j' (low j' hw hs) hw
 ·intro hn s v hs hv
  rw [h.kept t fun j hw hs'=>hn j (low j hw hs') hw]
  exact (h0 t s v hs hv).mono h.good.le
theorem Rg.Inv0.rel' (h:g.Inv0 E0 H0 w0 a0 N S E D H a w) (hL:g.Laws) (h0:g.V0 E0 a0) {i:Nat} {o:Oper} (ho:g.l[i]? = some o) (hi:¬ S i) (hready:∀ j,g.hang i j=true→S j):g.Rel E a i o:=
 fun _ ht=>h.tmpR hL h0 ho hi hready (.inr (.inl ht))
theorem VR.of_bool {E:Env} {v:V} {b:Bool} (h:VR E v (.bool b)):v=.bool b∨v=.any∨∃ s,v=.sym s:=by
 cases h
 ·exact .inr (.inl rfl)
 ·exact .inl rfl
 ·exact .inr (.inr ⟨_,rfl⟩)
theorem Rg.Inv0.wanted (h:g.Inv0 E0 H0 w0 a0 N S E D H a w) (hL:g.Laws) (h0:g.V0 E0 a0) {i:Nat} {o:Oper} {ops:Array Oper} (hops:g.l=ops.toList) (ho:g.l[i]? = some o) (hi:¬ S i) (hready:∀ j,g.hang i j=true→S j) :
  (g.Go o→Region.wanted o (yielded ops a.tmps)=true)∧(g.Skip i o→Region.wanted o (yielded ops a.tmps)=false):=by
 have key:∀ j want,o.guard=some (j,want)→∃ d,(ops[j]?).bind (·.dst)=some d∧VR E (g.val j) (a.eval (.tmp d)):=by
  intro j want hg
  obtain ⟨oj,d,h1,h2,h3⟩:=hL.guard i o j want ho hg
  refine ⟨d,?_,(h.tmpR hL h0 ho hi hready (.inr (.inr ⟨j,want,oj,hg,h1,h2⟩))).1 j h3⟩
  rw [hops,Array.getElem?_toList] at h1
  rw [h1];exact h2
 have yl:∀ j d b,(ops[j]?).bind (·.dst)=some d→(yielded ops a.tmps j=some b↔a.eval (.tmp d)=.bool b):=by
  intro j d b hd
  unfold yielded
  rw [hd]
  simp only [Option.bind_some,Act.eval,Array.getD_eq_getD_getElem?]
  cases ht:a.tmps[d]? with
  | none=>simp [undef]
  | some x=>cases x <;> simp
 constructor
 ·rintro (hn | ⟨j,want,hg,hv⟩)
  ·simp [Region.wanted,hn]
  ·obtain ⟨d,hd,hr⟩:=key j want hg
   rw [hv] at hr
   simp [Region.wanted,hg,(yl j d want hd).2 hr.bool_inv]
 ·rintro ⟨_,j,want,hg,hv1,hv2⟩
  obtain ⟨d,hd,hr⟩:=key j want hg
  simp only [Region.wanted,hg,beq_eq_false_iff_ne,ne_eq]
  intro e
  have:=(yl j d want hd).1 e
  rw [this] at hr
  rcases hr.of_bool with e | e | ⟨s,e⟩
  ·exact hv2 e
  ·exact hv1.1 e
  ·exact hv1.2 s e
theorem Act.put_get {a:Act} {d:Tmp} {v:Value} (h:d<a.tmps.size):(a.put (some d) v).eval (.tmp d)=v:=by
 simp [Act.eval,Act.put,h]
end Am
namespace Am
open Go
variable {g:Rg} {E0 E:Env} {H0 H HF:Heap} {w0 w:World} {a0 a:Act} {N:Nat} {S:Nat→Prop} {D:List (Nat×Option Nat)}
def With (S:Nat→Prop) (i:Nat):Nat→Prop:=fun j=>S j∨j=i
theorem Rg.Inv0.put (h:g.Inv0 E0 H0 w0 a0 N S E D H a w) (hL:g.Laws) (hN:∀ (i:Nat) (o:Oper) (d:Tmp),g.l[i]? = some o→o.dst=some d→d<N) {i:Nat} {o:Oper} (ho:g.l[i]? = some o) (hi:¬ S i)
  {E':Env} {x:Value} (hle:E.Le E') (hx:VR E' (g.val i) x) :
  (∀ t j,Writes g.l j t→With S i j→(∀ j',Writes g.l j' t→With S i j'→j'≤j)→VR E' (g.val j) ((a.put o.dst x).eval (.tmp t)))∧
  (∀ t,(∀ j,Writes g.l j t→¬ With S i j)→(a.put o.dst x).eval (.tmp t)=a0.eval (.tmp t))∧(a.put o.dst x).tmps.size=N∧(a.put o.dst x).defers=a0.defers:=by
 have other:∀ t,o.dst≠some t→(a.put o.dst x).eval (.tmp t)=a.eval (.tmp t):=by
  intro t ht
  refine Act.eval_put fun d hd=>?_
  intro e
  injection e with e
  subst e
  exact ht hd
 have notI:∀ t,o.dst≠some t→¬ Writes g.l i t:=by
  rintro t ht ⟨o',ho',hd⟩
  rw [ho] at ho';cases ho'
  exact ht hd
 refine ⟨fun t j hw hs hmax=>?_,fun t hn=>?_,?_,?_⟩
 ·by_cases ht:o.dst=some t
  ·have hwi:Writes g.l i t:=⟨o,ho,ht⟩
   have hij:=hmax i hwi (.inr rfl)
   have:j=i:=by
    rcases hL.tmps i o ho t (.inl ht) j hw with rfl | ⟨h1,_⟩ | ⟨h1,h2⟩
    ·rfl
    ·omega
    ·rcases hs with hs | rfl
     ·exact absurd (h.down _ _ hs h2) hi
     ·rfl
   subst this
   rw [ht,Act.put_get (by rw [h.size];exact hN _ _ _ ho ht)]
   exact hx
  ·rw [other t ht]
   have hji:j≠i:=fun e=>notI t ht (e▸hw)
   exact (h.wrote t j hw (hs.resolve_right hji) fun j' hw' hs'=>hmax j' hw' (.inl hs')).mono hle
 ·by_cases ht:o.dst=some t
  ·exact absurd (.inr rfl) (hn i ⟨o,ho,ht⟩)
  ·rw [other t ht]
   exact h.kept t fun j hw hs=>hn j hw (.inl hs)
 ·rw [← h.size]
  cases o.dst <;> simp [Act.put]
 ·rw [← h.defers]
  cases o.dst <;> rfl
theorem down_with (h:g.Inv0 E0 H0 w0 a0 N S E D H a w) {i:Nat} (hready:∀ j,g.hang i j=true→S j):∀ i' j,With S i i'→g.hang i' j=true→With S i j:=by
 rintro i' j (hs | rfl) hh
 ·exact .inl (h.down _ _ hs hh)
 ·exact .inl (hready _ hh)
theorem objR_alike {E:Env} {w:World} {o o':Obj} {r:Rec} (h:ObjR E w o 0 r) (ha:Alike o o'):ObjR E w o' 0 r:=by
 cases o <;> cases o' <;> simp only [Alike] at ha
 ·obtain ⟨rfl,rfl,rfl⟩:=ha
  obtain ⟨rc,t,fr,h0,h1,h2,h3,h4,h5,h6,h7,h8,h9⟩:=h
  exact ⟨rc,t,fr,h0,h1,h2,h3,h4,fun h=>absurd h (Nat.lt_irrefl _),h6,h7,fun i v a b c _=>h8 i v a b c (.inl rfl),h9⟩
 all_goals first
  | cases ha
  | (rw [← ha];exact h)
 all_goals exact h
theorem wp_value {P:Program} {o:Oper} {a:Act} {w w1:World} {x:Value} {K:Act→World→Prop} {Q:Exit→Act→World→Prop} (h:(execOp a.eval o).run P w=.ok (.value x) w1) (hk:K (a.put o.dst x) w1):o.wp P a w K Q:=by
 unfold Oper.wp
 rw [h]
 exact hk
theorem wp_xok {C:Ctx} {o:Oper} {v:V} {H':Heap} (h:XOk C E H w o a.eval v H') {K:Act→World→Prop} {Q:Exit→Act→World→Prop}
  (hk:∀ E' w' x,R C E' H' w'→Good H.n E w E' w'→VR E' v x→K (a.put o.dst x) w'):o.wp C.P a w K Q:=by
 obtain ⟨nx,E',w',h1,h2,h3,_,h5⟩:=h
 unfold Oper.wp
 rw [h1]
 rcases h5 with ⟨rfl,hv⟩ | ⟨x,rfl,hv⟩
 ·exact hk _ _ _ h2 h3 hv
 ·exact hk _ _ _ h2 h3 hv
theorem wpOp_go {P:Program} {ops:Array Oper} {Q:Exit→Act→World→Prop} {i:Nat} {o:Oper} (ho:ops[i]? = some o) {K:Act→World→Prop} (hw:Region.wanted o (yielded ops a.tmps)=true) (h:o.wp P a w K Q):wpOp P ops Q i K a w:=by
 unfold wpOp
 rw [ho]
 simp only [hw,if_true]
 exact .inl h
theorem wpOp_skip {P:Program} {ops:Array Oper} {Q:Exit→Act→World→Prop} {i:Nat} {o:Oper} (ho:ops[i]? = some o) {K:Act→World→Prop} (hw:Region.wanted o (yielded ops a.tmps)=false) (h:K (a.put o.dst undef) w):wpOp P ops Q i K a w:=by
 unfold wpOp
 rw [ho]
 simp only [hw]
 exact h
theorem undef_ok (E:Env):VR E (.tuple []) undef:=.tuple rfl (by simp)
theorem Rg.Inv0.free (h:g.Inv0 E0 H0 w0 a0 N S E D H a w) (hL:g.Laws) (h0:g.V0 E0 a0) (hN:∀ (i:Nat) (o:Oper) (d:Tmp),g.l[i]? = some o→o.dst=some d→d<N) {ops:Array Oper} (hops:g.l=ops.toList) {Q:Exit→Act→World→Prop}
  {i:Nat} {id:Option Nat} (hm:(i,id)∈D) (hi:¬ S i) (hready:∀ j,g.hang i j=true→S j) :
  wpOp g.C.P ops Q i (fun a' w'=>∃ E',g.Inv0 E0 H0 w0 a0 N (With S i) E' D H a' w') a w:=by
 obtain ⟨o,ho,hp⟩:=h.pend i id hm hi
 have ho':ops[i]? = some o:=by rw [hops,Array.getElem?_toList] at ho;exact ho
 obtain ⟨hgo,hskip⟩:=h.wanted hL h0 hops ho hi hready
 have hrel:=h.rel' hL h0 ho hi hready
 have hdown:=down_with h hready
 -- nothing of the memory turns
 have still:∀ x,VR E (g.val i) x→g.Inv0 E0 H0 w0 a0 N (With S i) E D H (a.put o.dst x) w:=by
  intro x hx
  obtain ⟨p1,p2,p3,p4⟩:=h.put hL hN ho hi (.refl E) hx
  refine ⟨h.rel,h.good,h.grow,fun j hj=>?_,fun j jd hj hs=>h.pend j jd hj fun hs'=>hs (.inl hs'),h.dist,h.bound,fun j q hj hs=>h.unborn j q hj fun hs'=>hs (.inl hs'),hdown,p1,p2,p3,p4⟩
  rcases hj with hj | rfl
  ·exact h.sub j hj
  ·exact ⟨id,hm⟩
 rcases hp with ⟨hsk,_⟩ | ⟨hg,k,hp⟩
 ·refine wpOp_skip ho' (hskip hsk) ⟨E,still _ ?_⟩
  rw [hsk.1];exact undef_ok E
 ·refine wpOp_go ho' (hgo hg) ?_
  rcases hp with ⟨hc,_,A0,A1,opd,ls,hsrc,hk,hv⟩ | ⟨hc,_,opd,ls,hsrc,hk,hv⟩ | ⟨hc,A0,A1,ob,ob',hid,⟨opd,ls,hsrc,hk,hv⟩,hlt,hg1,hg2,hal⟩
  ·obtain ⟨_,hd⟩:=p_all (ρ:=a.eval) (fun _=>rfl) (hsrc E H w a h.rel hrel) hk hc hv
   obtain ⟨r,h1,h2⟩:=hd w
   exact wp_value h1 ⟨E,still r h2⟩
  ·obtain ⟨_,r,h1,h2⟩:=l_all (ρ:=a.eval) (hsrc E H w a h.rel hrel) hk hc hv h.rel
   exact wp_value h1 ⟨E,still r h2⟩
  ·obtain ⟨obj,f,hvf,rfl,hA⟩:=a_all (ρ:=a.eval) (hsrc E H w a h.rel hrel) hk hc hv
   obtain ⟨x,w1,blk,ext,sz,e1,e2,e3,e4,e5,e6,e7⟩:=hA w
   rw [Heap.get_alloc,if_pos rfl] at hg1
   cases hg1
   subst hid
   have hnone:=h.unborn i A0.n hm hi
   obtain ⟨k1,k2⟩:=h.rel.mat hlt hnone hg2 (w1:=w1.alloc blk) (blk:=blk) ⟨by rw [World.alloc,e2],e3,e4,e5⟩ (objR_alike e7 hal)
   have hle:E.Le (E.add A0.n 0 ⟨w.heap.size,0,ext,sz⟩):=Env.add_le (hnone 0)
   have hx:VR (E.add A0.n 0 ⟨w.heap.size,0,ext,sz⟩) (g.val i) x:=by rw [hvf];exact e6 _ _ hle Env.add_at
   obtain ⟨p1,p2,p3,p4⟩:=h.put hL hN ho hi hle hx
   refine wp_value e1 ⟨_,k1,h.good.trans (k2 H0.n (h.bound _ _ hm).1) (Nat.le_refl _),h.grow,fun j hj=>?_,fun j jd hj hs=>h.pend j jd hj fun hs'=>hs (.inl hs'),h.dist,h.bound,fun j q hj hs ver=>?_,hdown,p1,p2,p3,p4⟩
   ·rcases hj with hj | rfl
    ·exact h.sub j hj
    ·exact ⟨_,hm⟩
   ·cases hmu:(E.add A0.n 0 ⟨w.heap.size,0,ext,sz⟩).mu q ver with
    | none=>rfl
    | some r=>
     rcases Env.add_some hmu with ⟨rfl,_,_⟩ | hmu
     ·exact absurd (.inr (h.dist j i _ hj hm)) hs
     ·rw [h.unborn j q hj (fun hs'=>hs (.inl hs')) ver] at hmu;cases hmu
theorem Rg.Inv0.act (h:g.Inv0 E0 H0 w0 a0 N S E D H a w) (hL:g.Laws) (h0:g.V0 E0 a0) (hN:∀ (i:Nat) (o:Oper) (d:Tmp),g.l[i]? = some o→o.dst=some d→d<N) {ops:Array Oper} (hops:g.l=ops.toList) {Q:Exit→Act→World→Prop}
  {i:Nat} {H':Heap} (hx:(∃ o,g.l[i]? = some o∧g.XDo i o H H')∧H.n≤H'.n∧∀ j id,(j,id)∈D→¬ S j→g.hang i j=false→g.Pend H' j id) (hi:¬ S i) (hready:∀ j,g.hang i j=true→S j) :
  wpOp g.C.P ops Q i (fun a' w'=>∃ E',g.Inv0 E0 H0 w0 a0 N (With S i) E' ((i,none) :: D) H' a' w') a w:=by
 obtain ⟨⟨o,ho,hdo⟩,hn,hfl⟩:=hx
 have ho':ops[i]? = some o:=by rw [hops,Array.getElem?_toList] at ho;exact ho
 obtain ⟨hgo,hskip⟩:=h.wanted hL h0 hops ho hi hready
 have hrel:=h.rel' hL h0 ho hi hready
 have hdown:=down_with h hready
 have next:∀ E' w' x,R g.C E' H' w'→Good H.n E w E' w'→VR E' (g.val i) x→g.Inv0 E0 H0 w0 a0 N (With S i) E' ((i,none) :: D) H' (a.put o.dst x) w':=by
  intro E' w' x hR hG hv
  obtain ⟨p1,p2,p3,p4⟩:=h.put hL hN ho hi hG.le hv
  refine ⟨hR,h.good.trans hG h.grow,Nat.le_trans h.grow hn,fun j hj=>?_,fun j jd hj hs=>?_,fun j j' q hj hj'=>?_,fun j q hj=>?_,fun j q hj hs=>?_,hdown,p1,p2,p3,p4⟩
  ·rcases hj with hj | rfl
   ·obtain ⟨jd,hjd⟩:=h.sub j hj;exact ⟨jd,List.mem_cons_of_mem _ hjd⟩
   ·exact ⟨none,List.mem_cons_self⟩
  ·rcases List.mem_cons.1 hj with e | hj
   ·cases e;exact absurd (.inr rfl) hs
   ·refine hfl j jd hj (fun hs'=>hs (.inl hs')) ?_
    cases hh:g.hang i j with
    | false=>rfl
    | true=>exact absurd (.inl (hready j hh)) hs
  ·rcases List.mem_cons.1 hj with e | p
   ·cases e
   ·rcases List.mem_cons.1 hj' with e | p'
    ·cases e
    ·exact h.dist j j' q p p'
  ·rcases List.mem_cons.1 hj with e | p
   ·cases e
   ·have:=h.bound j q p;exact ⟨this.1,by omega⟩
  ·rcases List.mem_cons.1 hj with e | p
   ·cases e
   ·exact hG.new q (h.bound j q p).2 (h.unborn j q p fun hs'=>hs (.inl hs'))
 rcases hdo with ⟨hsk,rfl⟩ | ⟨hg,hdo⟩
 ·refine wpOp_skip ho' (hskip hsk) ⟨E,next E w _ h.rel (.refl _ _ _) ?_⟩
  rw [hsk.1];exact undef_ok E
 ·refine wpOp_go ho' (hgo hg) (hdo E a w h.rel hrel _ Q fun E' w' x h1 h2 h3=>⟨E',next E' w' x h1 h2 h3⟩)
def Rg.Mid (g:Rg) (E0:Env) (H0:Heap) (w0:World) (a0:Act) (N:Nat) (HF:Heap) (S:Nat→Prop) (a:Act) (w:World):Prop:=
 ∃ E D H x y H',g.Inv0 E0 H0 w0 a0 N S E ((x,none) :: D) H a w∧S x∧g.XAt D H y H'∧Same H' HF∧(∀ id,(y,id)∉(x,none) :: D)∧∀ i,i<g.l.length→(∃ id,(i,id)∈(x,none) :: D)∨i=y
def Rg.Inv (g:Rg) (E0:Env) (H0:Heap) (w0:World) (a0:Act) (N:Nat) (HF:Heap) (S:Nat→Prop) (a:Act) (w:World):Prop:=
 (∃ E D H r HF',g.Inv0 E0 H0 w0 a0 N S E D H a w∧Stop g D H r HF'∧Same HF' HF∧r.Nodup∧(∀ i∈r,∀ id,(i,id)∉D)∧∀ i,i<g.l.length→(∃ id,(i,id)∈D)∨i∈r)∨
 g.Mid E0 H0 w0 a0 N HF S a w
theorem Rg.Inv.down (h:g.Inv E0 H0 w0 a0 N HF S a w):∀ i j,S i→g.hang i j=true→S j:=by
 rcases h with ⟨E,D,H,r,HF',h1,_⟩ | ⟨E,D,H,x,y,H',h1,_⟩
 ·exact h1.down
 ·exact h1.down
theorem Rg.XAt.weak {i:Nat} {H':Heap} (h:g.XAt D H i H') (S:Nat→Prop):(∃ o,g.l[i]? = some o∧g.XDo i o H H')∧H.n≤H'.n∧∀ j id,(j,id)∈D→¬ S j→g.hang i j=false→g.Pend H' j id:=
 ⟨h.1,h.2.1,fun j id hj _ hh=>h.2.2 j id hj hh⟩
theorem Same.trans {a b c:Heap} (h:Same a b) (k:Same b c):Same a c:=⟨h.1.trans k.1,fun id=>(h.2 id).trans (k.2 id)⟩
theorem Rg.Inv.step (h:g.Inv E0 H0 w0 a0 N HF S a w) (hL:g.Laws) (h0:g.V0 E0 a0) (hN:∀ (i:Nat) (o:Oper) (d:Tmp),g.l[i]? = some o→o.dst=some d→d<N) {ops:Array Oper} (hops:g.l=ops.toList) {Q:Exit→Act→World→Prop}
  {i:Nat} (hlt:i<g.l.length) (hi:¬ S i) (hready:∀ j,g.hang i j=true→S j) :
  wpOp g.C.P ops Q i (g.Inv E0 H0 w0 a0 N HF (With S i)) a w:=by
 rcases h with ⟨E,D,H,r,HF',h1,h2,h3,h4,h5,h6⟩ | ⟨E,D,H,x,y,H',h1,h2,h3,h4,h5,h6⟩
 ·rcases h6 i hlt with ⟨id,hid⟩ | hir
  ·refine wpOp_mono ?_ (h1.free hL h0 hN hops hid hi hready)
   rintro a' w' ⟨E',hI⟩
   exact .inl ⟨E',D,H,r,HF',hI,h2,h3,h4,h5,h6⟩
  ·have noS:∀ j∈r,¬ S j:=fun j hj hs=>by obtain ⟨jd,hjd⟩:=h1.sub j hs;exact h5 j hj jd hjd
   rcases h2 with ⟨rfl,_⟩ | ⟨i0,r',H',rfl,k1,k2,k3⟩ | ⟨x,y,H1,H2,Ha,Hb,rfl,k1,k2,k3,k4,k5,k6⟩
   ·simp at hir
   ·rcases List.mem_cons.1 hir with rfl | hir'
    ·obtain ⟨n1,n2⟩:=List.nodup_cons.1 h4
     refine wpOp_mono ?_ (h1.act hL h0 hN hops (k2.weak S) hi hready)
     rintro a' w' ⟨E',hI⟩
     obtain ⟨D',H'',r'',q1,q2,q3,q4,q5⟩:=hI.roll k3 n2 (fun j hj jd hjd=>by
      rcases List.mem_cons.1 hjd with e | hjd
      ·cases e;exact n1 hj
      ·exact h5 j (by simp [hj]) jd hjd)
     refine .inl ⟨E',D',H'',r'',HF',q1,q2,h3,q3,q4,fun j hj=>q5 j ?_⟩
     rcases h6 j hj with ⟨jd,hjd⟩ | hj
     ·exact .inl ⟨jd,by simp [hjd]⟩
     ·rcases List.mem_cons.1 hj with rfl | hj
      ·exact .inl ⟨none,by simp⟩
      ·exact .inr hj
    ·exact absurd (hready _ (k1 i hir')) (noS i0 (by simp))
   ·have hne:x≠y:=by intro e;subst e;simp at h4
    -- the first of the two
    have one:∀ {p q:Nat} {Hp Hq:Heap},i=p→(∀ j,j∈[x,y]→j=p∨j=q)→q∈[x,y]→q≠p→g.XAt D H p Hp→g.XAt D Hp q Hq→Same Hq HF→wpOp g.C.P ops Q i (g.Inv E0 H0 w0 a0 N HF (With S i)) a w:=by
     rintro p q Hp Hq rfl hpq hqm hqp hx1 hx2 hs
     refine wpOp_mono ?_ (h1.act hL h0 hN hops (hx1.weak S) hi hready)
     rintro a' w' ⟨E',hI⟩
     refine .inr ⟨E',D,Hp,i,q,Hq,hI,.inr rfl,hx2,hs,fun id hid=>?_,fun j hj=>?_⟩
     ·rcases List.mem_cons.1 hid with e | hid
      ·cases e;exact hqp rfl
      ·exact h5 q hqm id hid
     ·rcases h6 j hj with ⟨jd,hjd⟩ | hj
      ·exact .inl ⟨jd,by simp [hjd]⟩
      ·rcases hpq j hj with rfl | rfl
       ·exact .inl ⟨none,by simp⟩
       ·exact .inr rfl
    simp only [List.mem_cons,List.not_mem_nil,or_false] at hir
    rcases hir with rfl | rfl
    ·exact one rfl (by simp) (by simp) (fun e=>hne e.symm) k1 k2 (k5.trans h3)
    ·exact one rfl (by simp [or_comm]) (by simp) hne k3 k4 (k6.trans h3)
 ·rcases h6 i hlt with ⟨id,hid⟩ | rfl
  ·refine wpOp_mono ?_ (h1.free hL h0 hN hops hid hi hready)
   rintro a' w' ⟨E',hI⟩
   exact .inr ⟨E',D,H,x,y,H',hI,.inl h2,h3,h4,h5,h6⟩
  ·have hx:(∃ o,g.l[i]? = some o∧g.XDo i o H H')∧H.n≤H'.n∧∀ j id,(j,id)∈(x,none) :: D→¬ S j→g.hang i j=false→g.Pend H' j id:=by
    refine ⟨h3.1,h3.2.1,fun j id hj hs hh=>?_⟩
    rcases List.mem_cons.1 hj with e | hj
    ·cases e;exact absurd h2 hs
    ·exact h3.2.2 j id hj hh
   refine wpOp_mono ?_ (h1.act hL h0 hN hops hx hi hready)
   rintro a' w' ⟨E',hI⟩
   refine .inl ⟨E',_,H',[],H',hI,.inl ⟨rfl,rfl⟩,h4,List.nodup_nil,by simp,fun j hj=>?_⟩
   rcases h6 j hj with ⟨jd,hjd⟩ | rfl
   ·exact .inl ⟨jd,List.mem_cons_of_mem _ hjd⟩
   ·exact .inl ⟨none,by simp⟩
theorem Rg.Inv.start (hR:R g.C E0 H0 w0) (ha:a0.tmps.size=N) {r:List Nat} (t:Tr g [] H0 r HF) (hnd:r.Nodup) (hcov:∀ i,i<g.l.length→i∈r):g.Inv E0 H0 w0 a0 N HF (fun _=>False) a0 w0:=by
 have h:g.Inv0 E0 H0 w0 a0 N (fun _=>False) E0 [] H0 a0 w0:=
  ⟨hR,.refl _ _ _,Nat.le_refl _,fun _ h=>h.elim,by simp,by simp,by simp,by simp,fun _ _ h=>h.elim,fun _ _ _ h=>h.elim,fun _ _=>rfl,ha,rfl⟩
 obtain ⟨D',H',r',k1,k2,k3,k4,k5⟩:=h.roll t hnd (by simp)
 exact .inl ⟨E0,D',H',r',HF,k1,k2,⟨rfl,fun _=>rfl⟩,k3,k4,fun i hi=>k5 i (.inr (hcov i hi))⟩
structure Rg.Post (g:Rg) (E0:Env) (H0:Heap) (w0:World) (a0:Act) (N:Nat) (HF:Heap) (E:Env) (a:Act) (w:World):Prop where
 rel:R g.C E HF w
 good:Good H0.n E0 w0 E w
 grow:H0.n≤HF.n
 wrote:∀ t j,LastW g.l t g.l.length (some j)→VR E (g.val j) (a.eval (.tmp t))
 kept:∀ t,LastW g.l t g.l.length none→a.eval (.tmp t)=a0.eval (.tmp t)
 size:a.tmps.size=N
 defers:a.defers=a0.defers
theorem Writes.lt {l:List Oper} {j:Nat} {t:Tmp} (h:Writes l j t):j<l.length:=by
 obtain ⟨o,ho,_⟩:=h
 rcases Nat.lt_or_ge j l.length with h | h
 ·exact h
 ·rw [List.getElem?_eq_none h] at ho;cases ho
theorem Rg.Inv.post (h:g.Inv E0 H0 w0 a0 N HF S a w) (hall:∀ i,i<g.l.length→S i):∃ E,g.Post E0 H0 w0 a0 N HF E a w:=by
 rcases h with ⟨E,D,H,r,HF',h1,h2,h3,h4,h5,h6⟩ | ⟨E,D,H,x,y,H',h1,h2,⟨⟨o,ho,_⟩,_⟩,h4,h5,h6⟩
 case inr=>
  have hlt:y<g.l.length:=by
   rcases Nat.lt_or_ge y g.l.length with h | h
   ·exact h
   ·rw [List.getElem?_eq_none h] at ho;cases ho
  obtain ⟨id,hid⟩:=h1.sub y (hall y hlt)
  exact absurd hid (h5 id)
 have hr:∀ i∈r,∀ o,g.l[i]? = some o→False:=by
  intro i hir o ho
  have hlt:i<g.l.length:=by
   rcases Nat.lt_or_ge i g.l.length with h | h
   ·exact h
   ·rw [List.getElem?_eq_none h] at ho;cases ho
  obtain ⟨id,hid⟩:=h1.sub i (hall i hlt)
  exact h5 i hir id hid
 rcases h2 with ⟨rfl,rfl⟩ | ⟨i0,r',H',rfl,k1,⟨⟨o,ho,_⟩,_⟩,k3⟩ | ⟨x,y,H1,H2,Ha,Hb,rfl,⟨⟨o,ho,_⟩,_⟩,_⟩
 ·refine ⟨E,h1.rel.heap (Nat.le_of_eq h3.1) (fun id _ _ _=>(h3.2 id).symm) (fun id hid=>by rw [← h3.2];exact h1.rel.wf id (by rw [h3.1];exact hid)),h1.good,by rw [← h3.1];exact h1.grow,?_,?_,h1.size,h1.defers⟩
  ·rintro t j ⟨hlt,hw,hm⟩
   exact h1.wrote t j hw (hall j hlt) fun j' hw' _=>hm j' hw'.lt hw'
  ·intro t hn
   exact h1.kept t fun j hw _=>hn j hw.lt hw
 ·exact (hr i0 (by simp) o ho).elim
 ·exact (hr x (by simp) o ho).elim
end Am
namespace Am
open Go
variable {g:Rg} {E0 E:Env} {H0 H HF:Heap} {w0 w:World} {a0 a:Act} {N:Nat} {S:Nat→Prop} {D:List (Nat×Option Nat)}
theorem wpOps_text (hL:g.Laws) (h0:g.V0 E0 a0) (hN:∀ (i:Nat) (o:Oper) (d:Tmp),g.l[i]? = some o→o.dst=some d→d<N) {ops:Array Oper} (hops:g.l=ops.toList) {Q:Exit→Act→World→Prop}
  (hh:∀ i j,g.hang i j=true→j<i) (hQ:∀ E a w,g.Post E0 H0 w0 a0 N HF E a w→Q .normal a w) :
  ∀ (n k:Nat) (a:Act) (w:World),n+k=g.l.length→g.Inv E0 H0 w0 a0 N HF (fun j=>j<k) a w→wpOps g.C.P ops Q (List.range' k n) a w
 | 0,k,a,w,hk,hI=>by
  simp only [List.range'_zero,wpOps]
  obtain ⟨E,h⟩:=hI.post (fun i hi=>by omega)
  exact hQ E a w h
 | n+1,k,a,w,hk,hI=>by
  rw [List.range'_succ,wpOps_cons]
  refine wpOp_mono ?_ (hI.step hL h0 hN hops (by omega) (Nat.lt_irrefl k) (fun j hj=>hh k j hj))
  intro a' w' hI'
  refine wpOps_text hL h0 hN hops hh hQ n (k+1) a' w' (by omega) ?_
  have:With (fun j=>j<k) k=fun j=>j<k+1:=by
   funext j
   simp only [With,eq_iff_iff]
   omega
  rw [← this]
  exact hI'
structure Rg.Edges (g:Rg):Prop where
 low:∀ i o,g.l[i]? = some o→∀ e∈o.after,Region.binds .any e=true→e.on<i
 hang:∀ i o,g.l[i]? = some o→∀ j,g.hang i j=true→∃ e∈o.after,Region.binds .any e=true∧(j=e.on∨g.hang e.on j=true)
def unlisted (n:Nat) (listed:Array Bool):Nat:=(List.range n).countP fun i=>!listed.getD i true
theorem countP_split {p q:Nat→Bool} {i:Nat} : ∀ {l:List Nat},l.Nodup→i∈l→p i=true→q i=false→(∀ j,j≠i→q j=p j)→l.countP p=l.countP q+1
 | [],_,h,_,_,_=>by simp at h
 | a :: l,hn,h,hp,hq,hj=>by
  obtain ⟨n1,n2⟩:=List.nodup_cons.1 hn
  by_cases e:a=i
  ·subst e
   have:l.countP q=l.countP p:=by
    refine List.countP_congr fun x hx=>?_
    rw [hj x (fun e=>n1 (e▸hx))]
   simp [hp,hq,this]
  ·have hil:i∈l:=by
    rcases List.mem_cons.1 h with h | h
    ·exact absurd h.symm e
    ·exact h
   have ih:=countP_split n2 hil hp hq hj
   simp only [List.countP_cons,ih,hj a e]
   omega
theorem mem_ready {ops:Array Oper} {listed:Array Bool} {i:Nat} : i∈Region.ready .any ops listed↔i<ops.size∧listed.getD i true=false∧∃ o,ops[i]? = some o∧∀ e∈o.after,Region.binds .any e=true→listed.getD e.on false=true:=by
 unfold Region.ready
 simp only [List.mem_filter,List.mem_range,Bool.and_eq_true,Bool.not_eq_true']
 refine and_congr Iff.rfl (and_congr Iff.rfl ?_)
 cases ho:ops[i]? with
 | none=>simp
 | some o=>
  simp only [Option.map_some,Option.getD_some,Option.some.injEq,exists_eq_left']
  rw [Array.all_eq_true']
  refine forall_congr' fun e=>imp_congr Iff.rfl ?_
  cases Region.binds .any e <;> simp
theorem wpAny_ok (hL:g.Laws) (hE:g.Edges) (h0:g.V0 E0 a0) (hN:∀ (i:Nat) (o:Oper) (d:Tmp),g.l[i]? = some o→o.dst=some d→d<N) {ops:Array Oper} (hops:g.l=ops.toList) {Q:Exit→Act→World→Prop}
  (hQ:∀ E a w,g.Post E0 H0 w0 a0 N HF E a w→Q .normal a w) :
  ∀ (n:Nat) (listed:Array Bool) (a:Act) (w:World),listed.size=ops.size→unlisted ops.size listed=n→g.Inv E0 H0 w0 a0 N HF (fun j=>listed.getD j false=true) a w→wpAny g.C.P .any ops Q n listed a w:=by
 have hlen:g.l.length=ops.size:=by rw [hops];simp
 -- none ready: all listed
 have stop:∀ (listed:Array Bool) (a:Act) (w:World),listed.size=ops.size→g.Inv E0 H0 w0 a0 N HF (fun j=>listed.getD j false=true) a w→Region.ready .any ops listed=[]→Q .normal a w:=by
  intro listed a w hs hI hr
  have all:∀ i,i<ops.size→listed.getD i false=true:=by
   intro i
   induction i using Nat.strongRecOn with
   | _ i ih=>
    intro hi
    cases hl:listed.getD i false with
    | true=>rfl
    | false=>
     have:i∈Region.ready .any ops listed:=by
      rw [mem_ready]
      refine ⟨hi,?_,ops[i],by simp [hi],fun e he hb=>?_⟩
      ·have:i<listed.size:=by omega
       simp [Array.getD,this] at hl ⊢
       exact hl
      ·have hlt:=hE.low i ops[i] (by rw [hops];simp [hi]) e he hb
       exact ih e.on hlt (by omega)
     rw [hr] at this
     simp at this
  obtain ⟨E,h⟩:=hI.post (fun i hi=>all i (by omega))
  exact hQ E a w h
 intro n
 induction n with
 | zero=>
  intro listed a w hs hu hI
  have hr:Region.ready .any ops listed=[]:=by
   cases hr:Region.ready .any ops listed with
   | nil=>rfl
   | cons i l=>
    have hi:i∈Region.ready .any ops listed:=by rw [hr];simp
    obtain ⟨h1,h2,_⟩:=mem_ready.1 hi
    have:=List.countP_eq_zero.1 hu i (List.mem_range.2 h1)
    simp [h2] at this
  exact ⟨hr,stop listed a w hs hI hr⟩
 | succ n ih=>
  intro listed a w hs hu hI
  refine ⟨stop listed a w hs hI,fun i hi=>?_⟩
  obtain ⟨h1,h2,o,h3,h4⟩:=mem_ready.1 hi
  have hlt:i<listed.size:=by omega
  have hS:listed.getD i false=false:=by simp [Array.getD,hlt] at h2 ⊢;exact h2
  refine wpOp_mono ?_ (hI.step hL h0 hN hops (by omega) (by simp [hS]) (fun j hj=>?_))
  ·intro a' w' hI'
   refine ih _ a' w' (by simpa using hs) ?_ ?_
   ·have hsplit:=countP_split (p:=fun j=>!listed.getD j true) (q:=fun j=>!(listed.setIfInBounds i true).getD j true) (i:=i) (l:=List.range ops.size) List.nodup_range (List.mem_range.2 h1) (by simp [h2]) (by simp [Array.getD,hlt]) (fun j hj=>by
     simp only [Array.getD_eq_getD_getElem?,Array.getElem?_setIfInBounds]
     rw [if_neg (fun e=>hj e.symm)])
    have:unlisted ops.size listed=unlisted ops.size (listed.setIfInBounds i true)+1:=hsplit
    omega
   ·have:With (fun j=>listed.getD j false=true) i=fun j=>(listed.setIfInBounds i true).getD j false=true:=by
     funext j
     simp only [With,eq_iff_iff]
     simp only [Array.getD_eq_getD_getElem?,Array.getElem?_setIfInBounds]
     by_cases e:i=j
     ·subst e;simp [hlt]
     ·simp only [if_neg e]
      constructor
      ·rintro (h | h)
       ·exact h
       ·exact absurd h.symm e
      ·exact .inl
    rw [← this]
    exact hI'
  ·obtain ⟨e,he,hb,hh⟩:=hE.hang i o (by rw [hops];simpa using h3) j hj
   rcases hh with rfl | hh
   ·exact h4 e he hb
   ·exact hI.down _ _ (h4 e he hb) hh
theorem region_text {id:Nat} {ops:Array Oper} {Q:Exit→Act→World→Prop} (hL:g.Laws) (h0:g.V0 E0 a0) (hN:∀ (i:Nat) (o:Oper) (d:Tmp),g.l[i]? = some o→o.dst=some d→d<N) (hops:g.l=ops.toList)
  (hh:∀ i j,g.hang i j=true→j<i) (hR:R g.C E0 H0 w0) (ha:a0.tmps.size=N) {r:List Nat} (t:Tr g [] H0 r HF) (hnd:r.Nodup) (hcov:∀ i,i<g.l.length→i∈r)
  (hQ:∀ E a w,g.Post E0 H0 w0 a0 N HF E a w→Q .normal a w):(Code.region id ops false).wp g.C.P Q a0 w0:=by
 refine wp_region ?_
 have hI:=Rg.Inv.start hR ha t hnd hcov
 rw [List.range_eq_range']
 refine wpOps_text hL h0 hN hops hh hQ ops.size 0 a0 w0 (by rw [hops];simp) ?_
 have:(fun _=>False)=fun j:Nat=>j<0:=by funext j;simp
 rw [← this]
 exact hI
theorem region_any {id:Nat} {ops:Array Oper} {Q:Exit→Act→World→Prop} (hm:g.C.P.follows .mixedOrders=true) (hL:g.Laws) (hE:g.Edges) (h0:g.V0 E0 a0) (hN:∀ (i:Nat) (o:Oper) (d:Tmp),g.l[i]? = some o→o.dst=some d→d<N) (hops:g.l=ops.toList)
  (hR:R g.C E0 H0 w0) (ha:a0.tmps.size=N) {r:List Nat} (t:Tr g [] H0 r HF) (hnd:r.Nodup) (hcov:∀ i,i<g.l.length→i∈r)
  (hQ:∀ E a w,g.Post E0 H0 w0 a0 N HF E a w→Q .normal a w):(Code.region id ops true).wp g.C.P Q a0 w0:=by
 refine wp_region_any hm ?_
 have hI:=Rg.Inv.start (w0:=w0.drew) hR.drew ha t hnd hcov
 have hQ':∀ E a w,g.Post E0 H0 w0.drew a0 N HF E a w→Q .normal a w:=fun E a w h=>hQ E a w ⟨h.rel,⟨h.good.le,h.good.frame,h.good.new,h.good.size,h.good.os,h.good.tape,h.good.output,h.good.imm⟩,h.grow,h.wrote,h.kept,h.size,h.defers⟩
 refine wpAny_ok hL hE h0 hN hops hQ' ops.size _ a0 _ (by simp) ?_ ?_
 ·unfold unlisted
  rw [List.countP_eq_length.2]
  ·simp
  ·intro i hi
   have:=List.mem_range.1 hi
   simp [Array.getD,this]
 ·have:(fun _=>False)=fun j:Nat=>(Array.replicate ops.size false).getD j false=true:=by
   funext j
   simp only [Array.getD_eq_getD_getElem?,Array.getElem?_replicate,eq_iff_iff,false_iff]
   split <;> simp
  rw [← this]
  exact hI
end Am
namespace Am
open Go
def CallsTo (C:Ctx) (f:Nat) (args:List V) (H:Heap) (v:V) (H':Heap):Prop:=
 enters C.P f=true∧H.n≤H'.n∧∀ (E:Env) (w:World) (xs:Array Value),R C E H w→xs.size=args.length→(∀ (i:Nat) (a:V) (x:Value),args[i]? = some a→xs[i]? = some x→VR E a x)→
  Calls C.P f xs w fun e w'=>∃ (x:Value) (E':Env),e=.returned x∧R C E' H' w'∧VR E' v x∧Good H.n E w E' w'
def CallOk (C:Ctx) (call:CallF):Prop:=∀ f args H v H',call f args H=some (v,H')→CallsTo C f args H v H'
variable {C:Ctx} {E:Env} {H:Heap} {w:World} {opd:Operand→Option Opd} {ls vs:List V} {a:Act}
variable {o:Oper} {k:AK} {h':Heap} {v:V}
theorem run_callFunc {P:Program} {f:FuncId} (h:enters P f=true) (xs:Array Value) (w:World):(callFunc f xs).run P w=.ok (.enter f xs) w:=by
 unfold enters at h
 split at h
 ·rename_i fn hf
  simp only [Bool.and_eq_true,bne_iff_ne,ne_eq] at h
  obtain ⟨h1,h2⟩:=h
  cases hb:fn.body with
  | none=>rw [hb] at h1;cases h1
  | some b=>simp [callFunc,hf,h2,hb]
 ·cases h
theorem wp_enter {P:Program} {f:FuncId} {xs:Array Value} {K:Act→World→Prop} {Q:Exit→Act→World→Prop} {F:Value→World→Prop}
  (hrun:(execOp a.eval o).run P w=.ok (.enter f xs) w) (hc:Calls P f xs w fun e w'=>∃ x,e=.returned x∧F x w') (hk:∀ x w',F x w'→K (a.put o.dst x) w'):o.wp P a w K Q:=by
 unfold Oper.wp
 rw [hrun]
 show Calls P f xs w _
 refine hc.mono fun e w' h=>?_
 obtain ⟨x,rfl,hf⟩:=h
 exact hk x w' hf
theorem prepBuiltin_ne {b:Builtin} {ts:List TypeId} {args:List Operand} (h:prepBuiltin C.P opd b ts args=some k):(∀ f l,k≠.call f l)∧∀ f l,k≠.callv f l:=by
 cases b
 all_goals (rcases ts with _ | ⟨t,_ | ⟨u,ts⟩⟩ <;> rcases args with _ | ⟨x,_ | ⟨y,as⟩⟩)
 all_goals simp only [prepBuiltin,reduceCtorEq] at h
 all_goals (repeat' split at h)
 all_goals first
  | contradiction
  | (obtain ⟨z,_,rfl⟩:=map_some h;exact ⟨fun _ _ h=>(by cases h),fun _ _ h=>(by cases h)⟩)
  | (simp only [Option.some.injEq] at h;subst h;exact ⟨fun _ _ h=>(by cases h),fun _ _ h=>(by cases h)⟩)
theorem x_call {call:CallF} (hcall:CallOk C call) (hO:OpR E opd ls vs a.eval o.op.operands.toList) (hk:prepOp C.P opd o.op=some k) (hc:(∃ f l,k=.call f l)∨∃ f l,k=.callv f l) (hv:opc call k ls vs H=some (v,h')) (hR:R C E H w)
  {K:Act→World→Prop} {Q:Exit→Act→World→Prop} (hK:∀ E' w' x,R C E' h' w'→Good H.n E w E' w'→VR E' v x→K (a.put o.dst x) w'):o.wp C.P a w K Q∧H.n≤h'.n:=by
 have hcl:=prep_cl hk
 have hx:k.cl=.x:=by rcases hc with ⟨f,l,rfl⟩ | ⟨f,l,rfl⟩ <;> rfl
 rw [hx] at hcl
 cases hop:o.op
 all_goals rw [hop] at hk hO hcl
 all_goals try (simp [prepOp] at hk;done)
 all_goals try (simp [okCl] at hcl;done)
 case store=>
  unfold prepOp at hk
  repeat' split at hk
  all_goals first
   | contradiction
   | (simp only [Option.some.injEq] at hk;subst hk;rcases hc with ⟨_,_,h⟩ | ⟨_,_,h⟩ <;> cases h)
 case mapUpdate=>
  unfold prepOp at hk
  repeat' split at hk
  all_goals first
   | contradiction
   | (obtain ⟨z,_,rfl⟩:=Option.map_eq_some_iff.1 hk;rcases hc with ⟨_,_,h⟩ | ⟨_,_,h⟩ <;> cases h)
 case insert=>
  unfold prepOp at hk
  repeat' split at hk
  all_goals first
   | contradiction
   | (obtain ⟨z,_,rfl⟩:=Option.map_eq_some_iff.1 hk;rcases hc with ⟨_,_,h⟩ | ⟨_,_,h⟩ <;> cases h)
 case next x ok=>
  cases ok with
  | false=>simp [prepOp] at hk
  | true=>
   simp only [prepOp] at hk
   obtain ⟨z,_,rfl⟩:=map_some hk
   rcases hc with ⟨_,_,h⟩ | ⟨_,_,h⟩ <;> cases h
 case call c=>
  obtain ⟨callee,args,ats⟩:=c
  cases callee with
  | builtin b=>
   exfalso
   have:=prepBuiltin_ne (C:=C) (opd:=opd) (k:=k) (b:=b) (ts:=ats.toList) (args:=args.toList) (by simpa only [prepOp] using hk)
   rcases hc with ⟨f,l,rfl⟩ | ⟨f,l,rfl⟩
   ·exact this.1 f l rfl
   ·exact this.2 f l rfl
  | invoke r m=>simp [okCl] at hcl
  | value x=>
   have hOx:OpR E opd ls vs a.eval [x]:=fun y hy=>hO y (by simp only [Op.operands,Call.operands];simp at hy ⊢;exact .inl hy)
   have hOa:OpR E opd ls vs a.eval args.toList:=fun y hy=>hO y (by simp only [Op.operands,Call.operands];simp at hy ⊢;exact .inr hy)
   have hmap:(args.map a.eval).toList=args.toList.map a.eval:=by simp
   -- a call of a value
   have viaV:∀ zx zl,opd x=some zx→opds opd args.toList=some zl→k=.callv zx zl→o.wp C.P a w K Q∧H.n≤h'.n:=by
    rintro zx zl hzx hzl rfl
    simp only [opc,o_callv] at hv
    split at hv
    ·rename_i f first caps as hf has
     obtain ⟨he,hn,hcalls⟩:=hcall _ _ _ _ _ hv
     obtain ⟨g1,g2⟩:=opds_rel hOa hzl has
     have hfx:=hOx x (by simp) zx _ hzx hf
     generalize hfv:a.eval x=fv at hfx
     cases hfx with
     | @fn _ _ _ first' caps' q1 q2 q3 q4=>
      have hs:=hcalls E w (first'++args.map a.eval++caps') hR (by simp [q1,q2] at g1 ⊢;omega) (fun i c y hi hy=>by
       rw [List.getElem?_append] at hi
       rw [Array.getElem?_append] at hy
       simp only [Array.size_append,Array.size_map,q1] at hy
       have hal:args.size=as.length:=by simpa using g1.symm
       simp only [List.length_append] at hi
       rw [hal] at hy
       split at hi
       ·rename_i hlt
        rw [if_pos hlt] at hy
        rw [List.getElem?_append] at hi
        rw [Array.getElem?_append,q1] at hy
        split at hi
        ·rename_i hlt2
         rw [if_pos hlt2] at hy
         exact q3 i c y hi hy
        ·rename_i hlt2
         rw [if_neg hlt2] at hy
         exact g2 _ c y hi (by rw [← hmap,Array.getElem?_toList];exact hy)
       ·rename_i hlt
        rw [if_neg hlt] at hy
        exact q4 _ c y hi hy)
      refine ⟨wp_enter (F:=fun y w'=>∃ E',R C E' h' w'∧VR E' v y∧Good H.n E w E' w') ?_ (hs.mono fun e w' ⟨y,E',h1,h2⟩=>⟨y,h1,E',h2⟩) (fun y w' ⟨E',h1,h2,h3⟩=>hK E' w' y h1 h3 h2),hn⟩
      simp [execOp,hop,resolve,hfv,Deferred.ofValue,invoke,run_callFunc he]
    ·cases hv
   cases x
   case func f=>
    simp only [prepOp] at hk
    split at hk
    ·rename_i he
     cases hos:opds opd args.toList with
     | none=>simp [hos] at hk
     | some l=>
      simp [hos] at hk;subst hk
      simp only [opc,o_call] at hv
      split at hv
      ·rename_i as has
       obtain ⟨_,hn,hcalls⟩:=hcall _ _ _ _ _ hv
       obtain ⟨g1,g2⟩:=opds_rel hOa hos has
       have hs:=hcalls E w (args.map a.eval) hR (by simpa using g1.symm) (fun i c y hi hy=>g2 i c y hi (by rw [← hmap,Array.getElem?_toList];exact hy))
       refine ⟨wp_enter (F:=fun y w'=>∃ E',R C E' h' w'∧VR E' v y∧Good H.n E w E' w') ?_ (hs.mono fun e w' ⟨y,E',h1,h2⟩=>⟨y,h1,E',h2⟩) (fun y w' ⟨E',h1,h2,h3⟩=>hK E' w' y h1 h3 h2),hn⟩
       rw [run_static (P:=C.P) hop rfl,run_callFunc he]
      ·cases hv
    ·repeat' split at hk
     all_goals first
      | contradiction
      | (simp only [Option.some.injEq] at hk;subst hk;rcases hc with ⟨_,_,h⟩ | ⟨_,_,h⟩ <;> cases h)
   all_goals
    simp only [prepOp] at hk
    split at hk
    ·rename_i zx zl hzx hzl
     simp only [Option.some.injEq] at hk
     exact viaV zx zl hzx hzl hk.symm
    ·cases hk
end Am
namespace Am
open Go
def Operand.tmp?:Operand→Option Tmp
 | .tmp t=>some t
 | _=>none
def readsOf (o:Oper):List Tmp:=o.op.operands.toList.filterMap Operand.tmp?
def lastWF (t:Tmp):List Oper→Nat→Nat→Option Nat→Option Nat
 | _,0,_,acc=>acc
 | [],_+1,_,acc=>acc
 | o :: l,n+1,j,acc=>lastWF t l n (j+1) (match o.dst with
  | some d=>match Nat.beq d t with
   | true=>some j
   | false=>acc
  | none=>acc)
def lastW (ops:List Oper) (t:Tmp) (i:Nat):Option Nat:=lastWF t ops i 0 none
def freeReads:List Oper→List Tmp→List Tmp→List Tmp
 | [],_,acc=>acc
 | o :: r,wr,acc=>
  freeReads r (match o.dst with | some d=>d :: wr | none=>wr) ((readsOf o).foldl (fun acc t=>if wr.contains t || acc.contains t then acc else t :: acc) acc)
def codeVars:Code→List Tmp→List Tmp
 | .region _ ops _,acc=>freeReads ops.toList [] acc
 | .seq a b,acc=>codeVars b (codeVars a acc)
 | .cond c a b,acc=>
  let acc:=match c with
   | .tmp t=>if acc.contains t then acc else t :: acc
   | _=>acc
  codeVars b (codeVars a acc)
 | .block _ b,acc | .loop b,acc=>codeVars b acc
 | _,acc=>acc
structure Cx where
 P:Program
 glob:Nat→Option V
 slots:List Tmp
 ntmps:Nat
def Cx.varOf (c:Cx) (t:Tmp):Option Nat:=c.slots.idxOf? t
abbrev Pos:=List (Nat×(Nat×AK))
def Cx.opdAt (c:Cx) (ops:List Oper) (pos:Pos) (cur i:Nat) (x:Operand):Option Opd:=
 match x with
 | .const v=>(ofValue 4 v).map .cst
 | .global g=>some (.cst (match Nat.blt g tokB with
  | true=>(match c.glob g with | some v=>.vptr v 0 | none=>.any)
  | false=>.any))
 | .func f=>some (.cst (.fn f [] []))
 | .tmp t=>
  match lastW ops t i with
  | some j=>match pos.lookup j with
   | some (p,_)=>some (.loc (cur - 1 - p))
   | none=>none
  | none=>(c.varOf t).map .var
def guardAt (o:Oper) (pos:Pos) (cur:Nat):Option (Option (Nat×Bool)):=
 match o.guard with
 | none=>some none
 | some (j,want)=>match pos.lookup j with
  | some (p,_)=>some (some (cur - 1 - p,want))
  | none=>none
def Opd.sh (d:Nat):Opd→Opd
 | .loc i=>.loc (i+d)
 | z=>z
def check1 (ops:List Oper) (pos:Pos) (snaps:List (Nat×Nat)) (cur j p:Nat) (k:AK):Option (Option AOp):=
 match ops[j]? with
 | none=>none
 | some oj=>
  match guardAt oj pos cur with
  | none=>none
  | some g=>
   match k with
   | .load ag n a=>some (some ⟨g,.chk (cur - 1 - p) ag n (a.sh (cur - p))⟩)
   | .look kk z ok m k=>some (some ⟨g,.chkLook (cur - 1 - p) kk z ok (m.sh (cur - p)) (k.sh (cur - p))⟩)
   | .len .map m=>some (some ⟨g,.chkLen (cur - 1 - p) (m.sh (cur - p))⟩)
   | k=>match k.cl with
    | .p=>some none
    | .a=>match snaps.lookup j with
     | some q=>some (some ⟨g,.chkObj (cur - 1 - p) (cur - 1 - q)⟩)
     | none=>none
    | _=>none
def checks (ops:List Oper) (pos:Pos) (snaps:List (Nat×Nat)):Pos→Nat→Option (List AOp)
 | [],_=>some []
 | (j,(p,k)) :: fs,cur=>
  match check1 ops pos snaps cur j p k with
  | none=>none
  | some none=>checks ops pos snaps fs cur
  | some (some a)=>match checks ops pos snaps fs (cur+1) with
   | some cs=>some (a :: cs)
   | none=>none
def floats (hang:Nat→Nat→Bool) (i:Nat):Pos→Pos
 | []=>[]
 | e :: l=>match hang i e.1 with
  | true=>floats hang i l
  | false=>e :: floats hang i l
def allHang (hang:Nat→Nat→Bool) (i:Nat):List Nat→Bool
 | []=>true
 | j :: l=>match hang j i with
  | true=>allHang hang i l
  | false=>false
def Cx.isX (c:Cx) (o:Oper):Bool:=
 match prepOp c.P (fun _=>some (.loc 0)) o.op with
 | some k=>decide (k.cl=.x)
 | none=>false
def Cx.emit (c:Cx) (ops:List Oper) (hang:Nat→Nat→Bool) (extra:List Nat):List Nat→Pos→List (Nat×Nat)→Nat→Option (List AOp×Pos×List (Nat×Nat)×Nat)
 | [],pos,snaps,cur=>some ([],pos,snaps,cur)
 | i :: rest,pos,snaps,cur=>
  match ops[i]? with
  | none=>none
  | some o=>
   match guardAt o pos cur,pos.lookup i with
   | some g,none=>
    let k:=(prepOp c.P (c.opdAt ops pos cur i) o.op).getD .die
    match k.cl with
    | .x=>
     match allHang hang i rest && allHang hang i extra with
     | true=>match checks ops ((i,(cur,k)) :: pos) snaps (floats hang i pos) (cur+1) with
      | some cs=>match c.emit ops hang extra rest ((i,(cur,k)) :: pos) snaps (cur+1+cs.length) with
       | some (tl,r)=>some (⟨g,k⟩ :: (cs++tl),r)
       | none=>none
      | none=>none
     | false=>none
    | .a=>
     match (rest++extra).any (fun m=>match ops[m]? with | some om=>!hang m i && c.isX om | none=>true) with
     | true=>match guardAt o ((i,(cur,k)) :: pos) (cur+1) with
      | some g'=>match c.emit ops hang extra rest ((i,(cur,k)) :: pos) ((i,cur+1) :: snaps) (cur+2) with
       | some (tl,r)=>some (⟨g,k⟩ :: ⟨g',.snap 0⟩ :: tl,r)
       | none=>none
      | none=>none
     | false=>match c.emit ops hang extra rest ((i,(cur,k)) :: pos) snaps (cur+1) with
      | some (tl,r)=>some (⟨g,k⟩ :: tl,r)
      | none=>none
    | _=>match c.emit ops hang extra rest ((i,(cur,k)) :: pos) snaps (cur+1) with
     | some (tl,r)=>some (⟨g,k⟩ :: tl,r)
     | none=>none
   | _,_=>none
def asap (n:Nat) (isX:Nat→Bool) (mask:Nat→Nat):Nat→Nat→List Nat→List Nat
 | 0,_,acc=>acc.reverse
 | f+1,done,acc=>
  let ready:=(List.range n).filter fun i=>!done.testBit i && (mask i &&& done) == mask i
  match (ready.find? fun i=>!isX i).orElse (fun _=>ready.head?) with
  | some i=>asap n isX mask f (done ||| 2 ^ i) (i :: acc)
  | none=>acc.reverse
def Cx.outs (ops:List Oper) (pos:Pos) (cur:Nat):List Tmp→Nat→Option (List (Nat×Nat))
 | [],_=>some []
 | t :: ts,s=>match lastW ops t ops.length with
  | none=>Cx.outs ops pos cur ts (s+1)
  | some j=>match pos.lookup j,Cx.outs ops pos cur ts (s+1) with
   | some (p,_),some r=>some ((s,cur - 1 - p) :: r)
   | _,_=>none
def mask1 (ms:List Nat) (s:Nat):List Edge→Nat
 | []=>s
 | e :: l=>match Region.binds .any e with
  | true=>mask1 ms (s ||| 2 ^ e.on ||| (nth ms e.on).getD 0) l
  | false=>mask1 ms s l
def lowE (i:Nat):List Edge→Bool
 | []=>true
 | e :: l=>match Region.binds .any e with
  | true=>Nat.blt e.on i && lowE i l
  | false=>lowE i l
def masksOk (ms:List Nat):Nat→List Oper→Bool
 | _,[]=>true
 | i,o :: l=>Nat.beq (mask1 ms 0 o.after.toList) ((nth ms i).getD 0) && lowE i o.after.toList && masksOk ms (i+1) l
def writersOf:List Oper→Nat→List (Tmp×Nat)
 | [],_=>[]
 | o :: l,i=>match o.dst with
  | some d=>(d,i) :: writersOf l (i+1)
  | none=>writersOf l (i+1)
def okPair (hang:Nat→Nat→Bool) (i j:Nat):Bool:=Nat.beq j i || (Nat.blt j i && hang i j) || (Nat.blt i j && hang j i)
def okWriters (hang:Nat→Nat→Bool) (i:Nat) (t:Tmp):List (Tmp×Nat)→Bool
 | []=>true
 | (d,j) :: l=>match Nat.beq d t with
  | true=>okPair hang i j && okWriters hang i t l
  | false=>okWriters hang i t l
def guardOk (ops:List Oper) (i:Nat) (o:Oper):Bool:=
 match o.guard with
 | none=>true
 | some (j,_)=>match (ops[j]?).bind (·.dst) with
  | some d=>match lastW ops d i with
   | some j'=>Nat.beq j' j
   | none=>false
  | none=>false
def namesOf (ops:List Oper) (o:Oper):List Tmp:=
 o.dst.toList++readsOf o++(match o.guard with | none=>[] | some (j,_)=>((ops[j]?).bind (·.dst)).toList)
def dstOk (n:Nat) (o:Oper):Bool:=
 match o.dst with
 | some d=>Nat.blt d n
 | none=>true
def tmpsOk (ops:List Oper) (hang:Nat→Nat→Bool) (n:Nat) (ws:List (Tmp×Nat)):Nat→List Oper→Bool
 | _,[]=>true
 | i,o :: l=>(namesOf ops o).all (fun t=>okWriters hang i t ws) && guardOk ops i o && dstOk n o && tmpsOk ops hang n ws (i+1) l
def covers (pos:Pos):Nat→Bool
 | 0=>true
 | n+1=>(pos.lookup n).isSome && covers pos n
def blt' (i j:Nat):Bool:=Nat.blt j i
def hangM (ms:List Nat) (i j:Nat):Bool:=((nth ms i).getD 0).testBit j
def Cx.plain (c:Cx) (l:List Oper) (hang:Nat→Nat→Bool) (ord:List Nat):Option AC:=
 match c.emit l hang [] ord [] [] 0 with
 | some (as,pos,_,cur)=>match covers pos l.length with
  | true=>(Cx.outs l pos cur c.slots 0).map (.reg as)
  | false=>none
 | none=>none
def Cx.twin (c:Cx) (l:List Oper) (hang:Nat→Nat→Bool) (ord:List Nat) (x y:Nat):Option AC:=
 match c.emit l hang [x,y] ord [] [] 0 with
 | some (as,pos,snaps,cur)=>
  match l[x]?,l[y]? with
  | some ox,some oy=>
   match ox.guard,oy.guard,ox.dst,oy.dst,prepOp c.P (c.opdAt l pos cur x) ox.op,prepOp c.P (c.opdAt l pos cur y) oy.op with
   | none,none,none,none,some (.store n a v),some (.store n' a' v')=>
    match checks l pos snaps (floats hang x pos) cur,checks l pos snaps (floats hang y pos) cur,pos.lookup x,pos.lookup y,Nat.beq x y,covers ((x,(0,.die)) :: (y,(0,.die)) :: pos) l.length with
    | some [],some [],none,none,false,true=>(Cx.outs l pos cur c.slots 0).map (.reg2 as ⟨none,.store n a v⟩ ⟨none,.store n' a' v'⟩)
    | _,_,_,_,_,_=>none
   | _,_,_,_,_,_=>none
  | _,_=>none
 | none=>none
def inRow (hang:Nat→Nat→Bool):List Nat→Bool
 | a :: b :: l=>hang b a && inRow hang (b :: l)
 | _=>true
def Cx.region (c:Cx) (ops:Array Oper) (draw:Bool):Option AC:=
 let l:=ops.toList
 match draw with
 | false=>match tmpsOk l blt' c.ntmps (writersOf l 0) 0 l with
  | true=>c.plain l blt' (List.range l.length)
  | false=>none
 | true=>
  let ms:=CheckFast.beforeL l 0 []
  match masksOk ms 0 l && tmpsOk l (hangM ms) c.ntmps (writersOf l 0) 0 l with
  | true=>
   let isX:=fun i=>match l[i]? with
    | some o=>c.isX o
    | none=>false
   let ord:=asap l.length isX (fun i=>(nth ms i).getD 0) l.length 0 []
   let xs:=ord.filter isX
   match inRow (hangM ms) xs with
   | true=>c.plain l (hangM ms) ord
   | false=>match xs.reverse with
    | y :: x :: _=>c.twin l (hangM ms) (ord.filter fun i=>i != x && i != y) x y
    | _=>none
  | false=>none
def Cx.coinS (c:Cx) (ops:Array Oper):Option Nat:=
 match ops.toList with
 | [o0,o1,o2,o3]=>match o0.dst,o1.dst,o2.dst,o3.dst,o0.guard,o1.guard,o2.guard,o3.guard with
  | some p,none,none,some t,none,none,none,none=>
   let opd:Operand→Option Opd:=fun
    | .tmp q=>match Nat.beq q p with
     | true=>some (.loc 0)
     | false=>none
    | .const v=>(ofValue 4 v).map Opd.cst
    | _=>none
   match prepOp c.P opd o0.op,prepOp c.P opd o1.op,prepOp c.P opd o2.op,prepOp c.P opd o3.op with
   | some (.alloc [.bool _]),some (.store 1 (.loc 0) (.cst (.bool _))),some (.store 1 (.loc 0) (.cst (.bool _))),some (.load false 1 (.loc 0))=>
    match CheckFast.beforeL ops.toList 0 [] with
    | [0,1,1,7]=>match masksOk [0,1,1,7] 0 ops.toList && !Nat.beq p t && Nat.blt p c.ntmps && Nat.blt t c.ntmps,c.varOf p,c.varOf t with
     | true,none,some s=>some s
     | _,_,_=>none
    | _=>none
   | _,_,_,_=>none
  | _,_,_,_,_,_,_,_=>none
 | _=>none
def Cx.coinOf (c:Cx):Code→Option Nat
 | .region _ ops true=>match c.region ops true with
  | some _=>none
  | none=>c.coinS ops
 | _=>none
def Cx.code (c:Cx):Code→Option AC
 | .skip=>some .skip
 | .region _ ops draw=>some ((c.region ops draw).getD .stuck)
 | .seq a b=>match c.coinOf a with
  | some s=>(c.code b).map (.coin s)
  | none=>match c.code a,c.code b with
   | some a,some b=>some (.seq a b)
   | _,_=>none
 | .cond o a b=>
  match (match o with | .tmp t=>(c.varOf t).map Opd.var | .const v=>(ofValue 4 v).map Opd.cst | _=>none),c.code a,c.code b with
  | some o,some a,some b=>some (.cond o a b)
  | _,_,_=>none
 | .refuse _ | .goto _ | .label _ | .scope _ | .rangeFunc ..=>some .stuck
 | .block id b=>(c.code b).map (.block id)
 | .loop b=>(c.code b).map .loop
 | .exit id=>some (.exit id)
 | .ret=>some .ret
def resVars (fn:Func):List Tmp:=fn.results.toList.map fun | .tmp t=>t | .cell t _=>t
def Cx.res (c:Cx):List ResultVar→Option (List ARes)
 | []=>some []
 | .tmp t :: r=>match c.varOf t,c.res r with
  | some i,some l=>some (.var i :: l)
  | _,_=>none
 | .cell t ty :: r=>match c.varOf t,ldT c.P ty,c.res r with
  | some i,some (ag,n),some l=>some (.cell i ag n :: l)
  | _,_,_=>none
def slotsOf (fn:Func) (b:Code):List Tmp:=
 let np:=fn.params.size+fn.nfree
 let base:=List.range np++(resVars fn).filter fun t=>!(List.range np).contains t
 (codeVars b base.reverse).reverse
def prep (P:Program) (glob:Nat→Option V) (fn:Func):Option AFunc:=
 match fn.body with
 | none=>none
 | some b=>
  let c:Cx:=⟨P,glob,slotsOf fn b,fn.ntmps⟩
  match c.code b,c.res fn.results.toList with
  | some code,some res=>some ⟨fn.params.size+fn.nfree,c.slots.length,c.slots,code,res⟩
  | _,_=>none
end Am
namespace Am
open Go
theorem LastW.next {l:List Oper} {t:Tmp} {j:Nat} {acc:Option Nat} (h:LastW l t j acc) (hn:¬ Writes l j t):LastW l t (j+1) acc:=by
 cases acc with
 | none=>
  intro j' hlt hw
  rcases Nat.lt_or_eq_of_le (Nat.lt_succ_iff.1 hlt) with h' | rfl
  ·exact h j' h' hw
  ·exact hn hw
 | some a=>
  obtain ⟨h1,h2,h3⟩:=h
  refine ⟨by omega,h2,?_⟩
  intro j' hlt hw
  rcases Nat.lt_or_eq_of_le (Nat.lt_succ_iff.1 hlt) with h' | rfl
  ·exact h3 j' h' hw
  ·exact absurd hw hn
theorem LastW.far {l:List Oper} {t:Tmp} {j:Nat} {acc:Option Nat} (h:LastW l t j acc) (hl:l.length≤j):∀ n,LastW l t (j+n) acc
 | 0=>h
 | n+1=>by
  have ih:=LastW.far h hl n
  refine LastW.next ih ?_
  rintro ⟨o,ho,_⟩
  have ho:l[j+n]? = some o:=ho
  rw [List.getElem?_eq_none (Nat.le_trans hl (Nat.le_add_right j n))] at ho
  cases ho
theorem lastWF_spec (t:Tmp) (l:List Oper) (r:List Oper) (n:Nat):∀ (j:Nat) (acc:Option Nat),r=l.drop j→LastW l t j acc→LastW l t (j+n) (lastWF t r n j acc):=by
 induction n generalizing r with
 | zero=>
  intro j acc _ h
  have:lastWF t r 0 j acc=acc:=by cases r <;> rfl
  rw [this];exact h
 | succ n ih=>
  intro j acc hr h
  cases r with
  | nil=>
   have hl:l.length≤j:=List.drop_eq_nil_iff.1 hr.symm
   exact h.far hl (n+1)
  | cons o r=>
   have hj:j<l.length:=by
    rcases Nat.lt_or_ge j l.length with h' | h'
    ·exact h'
    ·rw [List.drop_eq_nil_of_le h'] at hr;cases hr
   rw [List.drop_eq_getElem_cons hj] at hr
   obtain ⟨h0,hr'⟩:=List.cons.inj hr
   have h0':l[j]? = some o:=by rw [List.getElem?_eq_getElem hj,h0]
   have hstep:LastW l t (j+1) (match o.dst with
     | some d=>match Nat.beq d t with
      | true=>some j
      | false=>acc
     | none=>acc):=by
    cases hd:o.dst with
    | none=>
     refine h.next ?_
     rintro ⟨o',ho',hd'⟩
     rw [h0'] at ho';cases ho'
     rw [hd] at hd';cases hd'
    | some d=>
     simp only
     cases hb:Nat.beq d t with
     | true=>
      rw [nbeq] at hb;subst hb
      exact ⟨Nat.lt_succ_self _,⟨o,h0',hd⟩,fun j' hlt _=>Nat.lt_succ_iff.1 hlt⟩
     | false=>
      refine h.next ?_
      rintro ⟨o',ho',hd'⟩
      rw [h0'] at ho';cases ho'
      rw [hd] at hd';cases hd'
      rw [nbeq.2 rfl] at hb;cases hb
   rw [show j+(n+1)=j+1+n from by omega]
   exact ih r (j+1) _ hr' hstep
theorem lastW_spec (l:List Oper) (t:Tmp) (i:Nat):LastW l t i (lastW l t i):=by
 have:=lastWF_spec t l l i 0 none (by simp) (fun j' h=>absurd h (Nat.not_lt_zero _))
 rw [Nat.zero_add] at this
 exact this
theorem mask1_spec (ms:List Nat):∀ (l:List Edge) (s j:Nat),(mask1 ms s l).testBit j=true→s.testBit j=true∨∃ e∈l,Region.binds .any e=true∧(j=e.on∨hangM ms e.on j=true)
 | [],s,j,h=>.inl h
 | e :: l,s,j,h=>by
  simp only [mask1] at h
  split at h
  ·rename_i hb
   rcases mask1_spec ms l _ j h with h | ⟨e',he',h'⟩
   ·simp only [Nat.testBit_or,Bool.or_eq_true] at h
    rcases h with (h | h) | h
    ·exact .inl h
    ·rw [Nat.testBit_two_pow] at h
     exact .inr ⟨e,by simp,hb,.inl (by simpa using Eq.symm (of_decide_eq_true h))⟩
    ·exact .inr ⟨e,by simp,hb,.inr h⟩
   ·exact .inr ⟨e',by simp [he'],h'⟩
  ·rcases mask1_spec ms l _ j h with h | ⟨e',he',h'⟩
   ·exact .inl h
   ·exact .inr ⟨e',by simp [he'],h'⟩
theorem lowE_spec (i:Nat):∀ (l:List Edge),lowE i l=true→∀ e∈l,Region.binds .any e=true→e.on<i
 | [],_,_,h,_=>by simp at h
 | e :: l,h,e',he',hb'=>by
  simp only [lowE] at h
  split at h
  ·simp only [Bool.and_eq_true,nblt] at h
   rcases List.mem_cons.1 he' with rfl | he'
   ·exact h.1
   ·exact lowE_spec i l h.2 e' he' hb'
  ·rename_i hb
   rcases List.mem_cons.1 he' with rfl | he'
   ·rw [hb'] at hb;cases hb
   ·exact lowE_spec i l h e' he' hb'
theorem masksOk_spec (ms:List Nat):∀ (l:List Oper) (i:Nat),masksOk ms i l=true→∀ (m:Nat) (o:Oper),l[m]? = some o→mask1 ms 0 o.after.toList=(nth ms (i+m)).getD 0∧∀ e∈o.after,Region.binds .any e=true→e.on<i+m
 | [],_,_,m,o,h=>by simp at h
 | o :: l,i,h,m,o',ho'=>by
  simp only [masksOk,Bool.and_eq_true,nbeq] at h
  obtain ⟨⟨h1,h2⟩,h3⟩:=h
  cases m with
  | zero=>
   simp at ho';subst ho'
   exact ⟨h1,fun e he hb=>lowE_spec i _ h2 e (by simpa using he) hb⟩
  | succ m=>
   have:=masksOk_spec ms l (i+1) h3 m o' (by simpa using ho')
   rw [show i+(m+1)=i+1+m from by omega]
   exact this
theorem edges_ok {g:Rg} {ms:List Nat} (hg:g.hang=hangM ms) (h:masksOk ms 0 g.l=true):g.Edges:=by
 constructor
 ·intro i o ho e he hb
  have:=(masksOk_spec ms g.l 0 h i o ho).2 e he hb
  omega
 ·intro i o ho j hj
  have h1:=(masksOk_spec ms g.l 0 h i o ho).1
  rw [Nat.zero_add] at h1
  rw [hg] at hj ⊢
  unfold hangM at hj
  rw [← h1] at hj
  rcases mask1_spec ms _ 0 j hj with h | ⟨e,he,hb⟩
  ·simp at h
  ·exact ⟨e,by simpa using he,hb⟩
theorem writersOf_spec:∀ (l:List Oper) (i j:Nat) (o:Oper) (t:Tmp),l[j]? = some o→o.dst=some t→(t,i+j)∈writersOf l i
 | [],_,_,_,_,h,_=>by simp at h
 | o :: l,i,0,o',t,h,hd=>by
  simp at h;subst h
  simp [writersOf,hd]
 | o :: l,i,j+1,o',t,h,hd=>by
  have:=writersOf_spec l (i+1) j o' t (by simpa using h) hd
  rw [show i+(j+1)=i+1+j from by omega]
  simp only [writersOf]
  split
  ·exact List.mem_cons_of_mem _ this
  ·exact this
theorem okWriters_spec {hang:Nat→Nat→Bool} {i:Nat} {t:Tmp} : ∀ {ws:List (Tmp×Nat)},okWriters hang i t ws=true→∀ j,(t,j)∈ws→j=i∨(j<i∧hang i j=true)∨(i<j∧hang j i=true)
 | [],_,_,h=>by simp at h
 | (d,j) :: ws,h,j',hj'=>by
  simp only [okWriters] at h
  split at h
  ·simp only [Bool.and_eq_true,okPair,Bool.or_eq_true,nbeq,nblt] at h
   rcases List.mem_cons.1 hj' with e | hj'
   ·cases e
    rcases h.1 with (h | h) | h
    ·exact .inl h
    ·exact .inr (.inl h)
    ·exact .inr (.inr h)
   ·exact okWriters_spec h.2 j' hj'
  ·rename_i hb
   rcases List.mem_cons.1 hj' with e | hj'
   ·cases e
    rw [nbeq.2 rfl] at hb;cases hb
   ·exact okWriters_spec h j' hj'
theorem mem_readsOf {o:Oper} {t:Tmp} (h : .tmp t∈o.op.operands.toList):t∈readsOf o:=by
 unfold readsOf
 exact List.mem_filterMap.2 ⟨_,h,rfl⟩
theorem tmpsOk_spec {ops:List Oper} {hang:Nat→Nat→Bool} {n:Nat} {ws:List (Tmp×Nat)} : ∀ (l:List Oper) (i:Nat),tmpsOk ops hang n ws i l=true→∀ (m:Nat) (o:Oper),l[m]? = some o→
  (∀ t∈namesOf ops o,okWriters hang (i+m) t ws=true)∧guardOk ops (i+m) o=true∧dstOk n o=true
 | [],_,_,_,_,h=>by simp at h
 | o :: l,i,h,m,o',ho'=>by
  simp only [tmpsOk,Bool.and_eq_true,List.all_eq_true] at h
  obtain ⟨⟨⟨h1,h2⟩,h3⟩,h4⟩:=h
  cases m with
  | zero=>simp at ho';subst ho';exact ⟨h1,h2,h3⟩
  | succ m=>
   rw [show i+(m+1)=i+1+m from by omega]
   exact tmpsOk_spec l (i+1) h4 m o' (by simpa using ho')
theorem laws_ok {g:Rg} {n:Nat} (h:tmpsOk g.l g.hang n (writersOf g.l 0) 0 g.l=true):g.Laws∧∀ (i:Nat) (o:Oper) (d:Tmp),g.l[i]? = some o→o.dst=some d→d<n:=by
 refine ⟨⟨fun i o ho t ht j hw=>?_,fun i o j want ho hg=>?_⟩,fun i o d ho hd=>?_⟩
 ·obtain ⟨h1,_,_⟩:=tmpsOk_spec g.l 0 h i o ho
  obtain ⟨oj,hoj,hd⟩:=hw
  have hmem:=writersOf_spec g.l 0 j oj t hoj hd
  rw [Nat.zero_add] at hmem h1
  refine okWriters_spec (h1 t ?_) j hmem
  unfold namesOf
  rcases ht with ht | ht | ⟨q,want,oq,hq1,hq2,hq3⟩
  ·simp [ht]
  ·simp [mem_readsOf ht]
  ·simp [hq1,hq2,hq3]
 ·obtain ⟨_,h2,_⟩:=tmpsOk_spec g.l 0 h i o ho
  rw [Nat.zero_add] at h2
  unfold guardOk at h2
  rw [hg] at h2
  simp only at h2
  split at h2
  ·rename_i d hd
   split at h2
   ·rename_i j' hl
    rw [nbeq] at h2;subst h2
    cases hj:g.l[j']? with
    | none=>rw [hj] at hd;cases hd
    | some oj=>
     rw [hj] at hd
     have:=lastW_spec g.l d i
     rw [hl] at this
     exact ⟨oj,d,rfl,hd,this⟩
   ·cases h2
  ·cases h2
 ·obtain ⟨_,_,h3⟩:=tmpsOk_spec g.l 0 h i o ho
  unfold dstOk at h3
  rw [hd] at h3
  exact nblt.1 h3
mutual
theorem V.beq_sound:∀ (a b:V),V.beq a b=true→a=b:=by
 intro a b h
 cases a <;> cases b <;> simp only [V.beq,Bool.and_eq_true,beq_iff_eq,decide_eq_true_eq,nbeq,eqBytes_iff,Bool.false_eq_true] at h
 ·rfl
 ·rw [h]
 ·rw [h.1,h.2]
 ·rw [h]
 ·rfl
 ·obtain ⟨⟨⟨rfl,rfl⟩,rfl⟩,rfl⟩:=h;rfl
 ·rw [V.beq_sound _ _ h.1,h.2]
 ·rfl
 ·obtain ⟨⟨⟨⟨⟨rfl,rfl⟩,rfl⟩,rfl⟩,rfl⟩,rfl⟩:=h;rfl
 ·rw [V.beqL_sound _ _ h]
 ·rfl
 ·rw [h]
 ·rw [h.1.1,V.beqL_sound _ _ h.1.2,V.beqL_sound _ _ h.2]
 ·rfl
 ·rw [h.1,V.beq_sound _ _ h.2]
 ·rfl
 ·rw [V.beqL_sound _ _ h]
 ·rw [V.beqL_sound _ _ h]
 ·rw [h]
theorem V.beqL_sound:∀ (a b:List V),V.beqL a b=true→a=b
 | [],[],_=>rfl
 | a :: x,b :: y,h=>by
  simp only [V.beqL,Bool.and_eq_true] at h
  rw [V.beq_sound a b h.1,V.beqL_sound x y h.2]
 | [],_ :: _,h=>by simp [V.beqL] at h
 | _ :: _,[],h=>by simp [V.beqL] at h
end
end Am
namespace Am
open Go
def Holds (ls:List V) (p:Nat) (v:V):Prop:=p<ls.length∧ls[ls.length - 1 - p]? = some v
theorem Holds.head {ls:List V} {v:V} : Holds (v :: ls) ls.length v:=⟨by simp,by simp⟩
theorem get_ext (ext ls:List V) (i:Nat):(ext++ls)[i+ext.length]? = ls[i]?:=by
 rw [List.getElem?_append_right (by omega)];congr 1;omega
theorem holds_ext {ext ls:List V} {p:Nat} (hp:p<ls.length) (v:V):Holds (ext++ls) p v↔Holds ls p v:=by
 unfold Holds
 rw [show (ext++ls).length - 1 - p=ls.length - 1 - p+ext.length from by simp;omega,get_ext]
 simp only [List.length_append,hp,true_and,and_iff_right_iff_imp]
 intro _;omega
theorem Holds.inj {ls:List V} {p:Nat} {u v:V} (h:Holds ls p u) (k:Holds ls p v):u=v:=by
 have:=h.2.symm.trans k.2
 simpa using this
theorem Holds.nth {ls:List V} {p:Nat} {v:V} (h:Holds ls p v):nth ls (ls.length - 1 - p)=some v:=by rw [nth_eq];exact h.2
theorem ev_sh {ext ls vs:List V} (z:Opd):ev (ext++ls) vs (z.sh ext.length)=ev ls vs z:=by
 cases z with
 | loc i=>simp only [Opd.sh,ev,nth_eq,get_ext]
 | var i=>rfl
 | cst v=>rfl
theorem run_ext {call:CallF} {vs:List V} : ∀ {ops:List AOp} {ls:List V} {H:Heap} {lsF:List V} {HF:Heap},runOps call ops ls vs H=some (lsF,HF)→∃ ext,lsF=ext++ls∧ext.length=ops.length
 | [],ls,H,lsF,HF,h=>by
  simp only [runOps,Option.some.injEq,Prod.mk.injEq] at h
  exact ⟨[],by simp [h.1],rfl⟩
 | o :: ops,ls,H,lsF,HF,h=>by
  simp only [runOps] at h
  split at h
  ·rename_i v H' _
   obtain ⟨ext,h1,h2⟩:=run_ext h
   exact ⟨ext++[v],by simp [h1],by simp [h2]⟩
  ·cases h
theorem emit_keep {c:Cx} {ops:List Oper} {hang:Nat→Nat→Bool} {extra:List Nat} : ∀ {rest:List Nat} {pos:Pos} {snaps:List (Nat×Nat)} {cur:Nat} {tl:List AOp} {posF:Pos} {snF:List (Nat×Nat)} {curF:Nat},
  c.emit ops hang extra rest pos snaps cur=some (tl,posF,snF,curF)→
  (∀ j e,pos.lookup j=some e→posF.lookup j=some e)∧curF=cur+tl.length∧(∀ i∈rest,(posF.lookup i).isSome∧pos.lookup i=none)∧rest.Nodup∧(∀ j e,posF.lookup j=some e→pos.lookup j=some e∨j∈rest)
 | [],pos,snaps,cur,tl,posF,snF,curF,h=>by
  simp only [Cx.emit,Option.some.injEq,Prod.mk.injEq] at h
  obtain ⟨rfl,rfl,rfl,rfl⟩:=h
  exact ⟨fun _ _ h=>h,rfl,by simp,List.nodup_nil,fun _ _ h=>.inl h⟩
 | i :: rest,pos,snaps,cur,tl,posF,snF,curF,h=>by
  simp only [Cx.emit] at h
  split at h
  ·cases h
  ·rename_i o ho
   split at h
   ·rename_i g hg hl
    -- what holds of the rest
    have go:∀ {k snaps' cur' tl' posF' snF' curF'},c.emit ops hang extra rest ((i,(cur,k)) :: pos) snaps' cur'=some (tl',posF',snF',curF')→
      (∀ j e,pos.lookup j=some e→posF'.lookup j=some e)∧curF'=cur'+tl'.length∧(∀ j∈i :: rest,(posF'.lookup j).isSome∧pos.lookup j=none)∧(i :: rest).Nodup∧(∀ j e,posF'.lookup j=some e→pos.lookup j=some e∨j∈i :: rest):=by
     intro k snaps' cur' tl' posF' snF' curF' he
     obtain ⟨h1,h2,h3,h4,h5⟩:=emit_keep he
     have hi:posF'.lookup i=some (cur,k):=h1 i _ (by simp [List.lookup])
     refine ⟨fun j e hj=>h1 j e ?_,h2,fun j hj=>?_,List.nodup_cons.2 ⟨fun hir=>?_,h4⟩,fun j e hj=>?_⟩
     ·have:j≠i:=fun e'=>by rw [e',hl] at hj;cases hj
      simp [List.lookup,beq_false_of_ne this,hj]
     ·rcases List.mem_cons.1 hj with rfl | hj
      ·exact ⟨by rw [hi];rfl,hl⟩
      ·refine ⟨(h3 j hj).1,?_⟩
       have:=(h3 j hj).2
       simp only [List.lookup] at this
       split at this
       ·cases this
       ·exact this
     ·have:=(h3 i hir).2
      simp [List.lookup] at this
     ·rcases h5 j e hj with h | h
      ·simp only [List.lookup] at h
       split at h
       ·rename_i he'
        exact .inr (by simp [beq_iff_eq.1 he'])
       ·exact .inl h
      ·exact .inr (by simp [h])
    split at h
    ·split at h
     ·split at h
      ·rename_i cs hcs
       split at h
       ·rename_i tl' r he
        simp only [Option.some.injEq,Prod.mk.injEq] at h
        obtain ⟨rfl,rfl⟩:=h
        obtain ⟨g1,g2,g3,g4,g5⟩:=go he
        exact ⟨g1,by simp only [List.length_cons,List.length_append];omega,g3,g4,g5⟩
       ·cases h
      ·cases h
     ·cases h
    ·split at h
     ·split at h
      ·split at h
       ·rename_i tl' r he
        simp only [Option.some.injEq,Prod.mk.injEq] at h
        obtain ⟨rfl,rfl⟩:=h
        obtain ⟨g1,g2,g3,g4,g5⟩:=go he
        exact ⟨g1,by simp only [List.length_cons];omega,g3,g4,g5⟩
       ·cases h
      ·cases h
     ·split at h
      ·rename_i tl' r he
       simp only [Option.some.injEq,Prod.mk.injEq] at h
       obtain ⟨rfl,rfl⟩:=h
       obtain ⟨g1,g2,g3,g4,g5⟩:=go he
       exact ⟨g1,by simp only [List.length_cons];omega,g3,g4,g5⟩
      ·cases h
    ·split at h
     ·rename_i tl' r he
      simp only [Option.some.injEq,Prod.mk.injEq] at h
      obtain ⟨rfl,rfl⟩:=h
      obtain ⟨g1,g2,g3,g4,g5⟩:=go he
      exact ⟨g1,by simp only [List.length_cons];omega,g3,g4,g5⟩
     ·cases h
   ·cases h
theorem opv_a {k:AK} (hc:k.cl=.a) {ls vs:List V} {H H1:Heap} {v:V} (h:opv k ls vs H=some (v,H1)):∃ ob,H1=H.alloc ob∧Alike ob ob∧∀ id,newId v=some id→id=H.n:=by
 cases k <;> simp [AK.cl] at hc
 case len q x=>cases q <;> simp at hc
 case alloc=>simp only [opv,o_alloc,Option.some.injEq,Prod.mk.injEq] at h;obtain ⟨rfl,rfl⟩:=h;exact ⟨_,rfl,by simp [Alike],fun id h=>by simpa [newId] using h.symm⟩
 case box=>
  simp only [opv,o_box] at h
  repeat' split at h
  all_goals first
   | contradiction
   | (simp only [Option.some.injEq,Prod.mk.injEq] at h;obtain ⟨rfl,rfl⟩:=h;exact ⟨_,rfl,by simp [Alike],fun id h=>by simpa [newId] using h.symm⟩)
 case bslice=>
  simp only [opv,o_bslice] at h
  repeat' split at h
  all_goals first
   | contradiction
   | (simp only [Option.some.injEq,Prod.mk.injEq] at h;obtain ⟨rfl,rfl⟩:=h;exact ⟨_,rfl,by simp [Alike],fun id h=>by simpa [newId] using h.symm⟩)
 case toBytes=>
  simp only [opv,o_toBytes] at h
  repeat' split at h
  all_goals first
   | contradiction
   | (simp only [Option.some.injEq,Prod.mk.injEq] at h;obtain ⟨rfl,rfl⟩:=h;exact ⟨_,rfl,by simp [Alike],fun id h=>by simpa [newId] using h.symm⟩)
 case mkM=>simp only [opv,o_mkM,Option.some.injEq,Prod.mk.injEq] at h;obtain ⟨rfl,rfl⟩:=h;exact ⟨_,rfl,by simp [Alike],fun id h=>by simpa [newId] using h.symm⟩
 case mkS=>
  simp only [opv,o_mkS] at h
  repeat' split at h
  all_goals first
   | contradiction
   | (simp only [Option.some.injEq,Prod.mk.injEq] at h;obtain ⟨rfl,rfl⟩:=h;exact ⟨_,rfl,by simp [Alike],fun id h=>by simpa [newId] using h.symm⟩)
 case range=>
  simp only [opv,o_range] at h
  repeat' split at h
  all_goals first
   | contradiction
   | (simp only [Option.some.injEq,Prod.mk.injEq] at h;obtain ⟨rfl,rfl⟩:=h;exact ⟨_,rfl,by simp [Alike],fun id h=>by simpa [newId] using h.symm⟩)
theorem opc_eq {call:CallF} {k:AK} (h:k.cl≠.x):opc call k=opv k:=by
 cases k <;> first | rfl | (simp [AK.cl] at h)
theorem opc_x {call:CallF} {k:AK} : (∃ f l,k=.call f l)∨(∃ f l,k=.callv f l)∨opc call k=opv k:=by
 cases k <;> first | exact .inl ⟨_,_,rfl⟩ | exact .inr (.inl ⟨_,_,rfl⟩) | exact .inr (.inr rfl)
end Am
namespace Am
open Go
abbrev Cx.rg (c:Cx) (ops:List Oper) (hang:Nat→Nat→Bool) (vs:List V) (val:Nat→V):Rg:=⟨⟨c.P,c.glob⟩,ops,hang,c.slots,vs,val⟩
def Rg.Src (g:Rg) (j:Nat) (o:Oper) (opd:Operand→Option Opd) (ls:List V):Prop:=∀ E H w a,R g.C E H w→g.Rel E a j o→OpR E opd ls g.vs a.eval o.op.operands.toList
variable {c:Cx} {ops:List Oper} {hang:Nat→Nat→Bool} {vs:List V} {val:Nat→V}
def PosOk (val:Nat→V) (ls:List V) (pos:Pos):Prop:=∀ j p k,pos.lookup j=some (p,k)→Holds ls p (val j)
theorem opd_src {ls:List V} {pos:Pos} (hpos:PosOk val ls pos) (i:Nat) (o:Oper):(c.rg ops hang vs val).Src i o (c.opdAt ops pos ls.length i) ls:=by
 intro E H w a hR hrel y hy z v hz hv
 cases y with
 | const x=>
  simp only [Cx.opdAt] at hz
  obtain ⟨u,hu,rfl⟩:=Option.map_eq_some_iff.1 hz
  simp only [ev,Option.some.injEq] at hv;subst hv
  exact ofValue_ok hu
 | global q=>
  simp only [Cx.opdAt,Option.some.injEq] at hz;subst hz
  simp only [ev,Option.some.injEq] at hv;subst hv
  split
  ·rename_i hq
   split
   ·rename_i u hu
    have:=hR.gl q u hu
    unfold GlR at this
    rwa [if_pos (nblt.1 hq)] at this
   ·exact .any _
  ·exact .any _
 | func f=>
  simp only [Cx.opdAt,Option.some.injEq] at hz;subst hz
  simp only [ev,Option.some.injEq] at hv;subst hv
  exact .fn rfl rfl (by simp) (by simp)
 | tmp t=>
  have hspec:=lastW_spec ops t i
  simp only [Cx.opdAt] at hz
  split at hz
  ·rename_i j hl
   rw [hl] at hspec
   split at hz
   ·rename_i p k hp
    simp only [Option.some.injEq] at hz;subst hz
    simp only [ev] at hv
    have:=(hpos j p k hp).nth
    rw [this] at hv
    simp only [Option.some.injEq] at hv;subst hv
    exact (hrel t hy).1 j hspec
   ·cases hz
  ·rename_i hl
   rw [hl] at hspec
   obtain ⟨s,hs,rfl⟩:=Option.map_eq_some_iff.1 hz
   simp only [ev,nth_eq] at hv
   exact (hrel t hy).2 hspec s v hs hv
theorem guard_said {ls:List V} {pos:Pos} (hpos:PosOk val ls pos) {o:Oper} {g:Option (Nat×Bool)} (hg:guardAt o pos ls.length=some g) :
  (wantedV ls g=some true→(c.rg ops hang vs val).Go o)∧(∀ i,wantedV ls g=some false→val i=.tuple []→(c.rg ops hang vs val).Skip i o)∧((c.rg ops hang vs val).Go o→wantedV ls g=some true):=by
 unfold guardAt at hg
 split at hg
 ·rename_i hn
  simp only [Option.some.injEq] at hg;subst hg
  exact ⟨fun _=>.inl hn,fun i h=>by simp [wantedV] at h,fun _=>rfl⟩
 ·rename_i j want hn
  split at hg
  ·rename_i p k hp
   simp only [Option.some.injEq] at hg;subst hg
   have hv:=(hpos j p k hp).nth
   simp only [wantedV,hv]
   refine ⟨fun h=>?_,fun i h hi=>?_,fun h=>?_⟩
   ·split at h
    ·rename_i b hb
     simp only [Option.some.injEq] at hb h
     have:b=want:=by simpa using h
     subst this
     exact .inr ⟨j,b,hn,hb⟩
    ·cases h
    ·cases h
    ·cases h
    ·cases h
   ·refine ⟨hi,j,want,hn,⟨?_,?_⟩,?_⟩
    ·intro e
     have e:val j=.any:=e
     rw [e] at h
     simp at h
    ·intro s e
     have e:val j=.sym s:=e
     rw [e] at h
     simp at h
    ·intro e
     have e:val j=.bool want:=e
     rw [e] at h
     simp at h
   ·rcases h with h | ⟨j',want',h,hv'⟩
    ·rw [hn] at h;cases h
    ·rw [hn] at h;cases h
     have hv':val j=.bool want:=hv'
     simp [hv']
  ·cases hg
end Am
namespace Am
open Go
variable {c:Cx} {ops:List Oper} {hang:Nat→Nat→Bool} {vs:List V} {val:Nat→V} {call:CallF}
theorem snap_alike {a b:Obj} {v:V} (ha:snapV a=some v) (hb:snapV b=some v):Alike a b:=by
 unfold snapV at ha hb
 split at ha
 ·simp only [Option.some.injEq] at ha;subst ha
  split at hb
  ·simp only [Option.some.injEq,V.agg.injEq] at hb;subst hb
   exact ⟨rfl,rfl,rfl⟩
  ·cases hb
  ·cases hb
 ·simp only [Option.some.injEq] at ha;subst ha
  split at hb
  ·cases hb
  ·rfl
  ·cases hb
 ·cases ha
def Known (g:Rg) (rest:List Nat) (H:Heap) (ls:List V) (pos:Pos) (snaps:List (Nat×Nat)) (j:Nat) (id:Option Nat):Prop:=
 ∃ p k o,pos.lookup j=some (p,k)∧g.l[j]? = some o∧((g.Skip j o∧id=none)∨(g.Go o∧∃ opd ls0 ext H0 H1,g.Src j o opd ls0∧prepOp g.C.P opd o.op=some k∧ls=ext++ls0∧ls0.length=p∧
    ((k.cl=.p∧id=none∧opv k ls0 g.vs H0=some (g.val j,H1))∨
     (k.cl=.l∧id=none)∨
     (k.cl=.x∧id=none∧∀ i∈rest,g.hang i j=true)∨
     (k.cl=.a∧id=some H0.n∧opv k ls0 g.vs H0=some (g.val j,H1)∧H0.n<H.n∧∃ ob,H1.get H0.n=some ob∧∀ q,snaps.lookup j=some q→q<ls.length∧∃ sv,snapV ob=some sv∧Holds ls q sv))))
theorem Known.mono {g:Rg} {rest rest':List Nat} {H H':Heap} {ls ls' ext':List V} {pos pos':Pos} {snaps snaps':List (Nat×Nat)} {j:Nat} {id:Option Nat} (h:Known g rest H ls pos snaps j id)
  (hr:∀ i∈rest',i∈rest) (hn:H.n≤H'.n) (hl:ls'=ext'++ls) (hp:∀ e,pos.lookup j=some e→pos'.lookup j=some e) (hs:snaps'.lookup j=snaps.lookup j):Known g rest' H' ls' pos' snaps' j id:=by
 obtain ⟨p,k,o,h1,h2,h3⟩:=h
 refine ⟨p,k,o,hp _ h1,h2,?_⟩
 rcases h3 with h3 | ⟨hg,opd,ls0,ext,H0,H1,h4,h5,h6,h7,h8⟩
 ·exact .inl h3
 ·refine .inr ⟨hg,opd,ls0,ext'++ext,H0,H1,h4,h5,by rw [hl,h6,List.append_assoc],h7,?_⟩
  rcases h8 with h | h | ⟨a,b,d⟩ | ⟨a,b,d,e,ob,f,q⟩
  ·exact .inl h
  ·exact .inr (.inl h)
  ·exact .inr (.inr (.inl ⟨a,b,fun i hi=>d i (hr i hi)⟩))
  ·refine .inr (.inr (.inr ⟨a,b,d,by omega,ob,f,fun q' hq'=>?_⟩))
   rw [hs] at hq'
   obtain ⟨r1,sv,r2,r3⟩:=q q' hq'
   exact ⟨by rw [hl];simp;omega,sv,r2,by rw [hl];exact (holds_ext r1 _).2 r3⟩
theorem check1_still {pos:Pos} {snaps:List (Nat×Nat)} {cur j p:Nat} {k:AK} {a:AOp} (h:check1 ops pos snaps cur j p k=some (some a)) {ls:List V} {H H':Heap} {v:V} (hv:stepO call a ls vs H=some (v,H')):H'=H:=by
 have still:∀ {q:AK},(∃ i ag n x,q=.chk i ag n x)∨(∃ i kk z ok m x,q=.chkLook i kk z ok m x)∨(∃ i m,q=.chkLen i m)∨(∃ i m,q=.chkObj i m)→∀ {v H'},opc call q ls vs H=some (v,H')→H'=H:=by
  rintro q (⟨i,ag,n,x,rfl⟩ | ⟨i,kk,z,ok,m,x,rfl⟩ | ⟨i,m,rfl⟩ | ⟨i,m,rfl⟩) v H' hq
  ·simp only [opc,o_chk] at hq
   repeat' split at hq
   all_goals first
    | contradiction
    | (simp only [Option.some.injEq,Prod.mk.injEq] at hq;exact hq.2.symm)
  ·simp only [opc,o_chkLook] at hq
   repeat' split at hq
   all_goals first
    | contradiction
    | (simp only [Option.some.injEq,Prod.mk.injEq] at hq;exact hq.2.symm)
  ·simp only [opc,o_chkLen] at hq
   repeat' split at hq
   all_goals first
    | contradiction
    | (simp only [Option.some.injEq,Prod.mk.injEq] at hq;exact hq.2.symm)
  ·simp only [opc,o_chkObj] at hq
   repeat' split at hq
   all_goals first
    | contradiction
    | (simp only [Option.some.injEq,Prod.mk.injEq] at hq;exact hq.2.symm)
 have ha:(∃ i ag n x,a.k=.chk i ag n x)∨(∃ i kk z ok m x,a.k=.chkLook i kk z ok m x)∨(∃ i m,a.k=.chkLen i m)∨(∃ i m,a.k=.chkObj i m):=by
  unfold check1 at h
  repeat' split at h
  all_goals first
   | contradiction
   | (simp only [Option.some.injEq] at h;subst h
      first
       | exact .inl ⟨_,_,_,_,rfl⟩
       | exact .inr (.inl ⟨_,_,_,_,_,_,rfl⟩)
       | exact .inr (.inr (.inl ⟨_,_,rfl⟩))
       | exact .inr (.inr (.inr ⟨_,_,rfl⟩)))
   | (simp only [Option.some.injEq,reduceCtorEq] at h)
 unfold stepO at hv
 split at hv
 ·cases hv
 ·simp only [Option.some.injEq,Prod.mk.injEq] at hv;exact hv.2.symm
 ·exact still ha hv
theorem checks_run {pos:Pos} {snaps:List (Nat×Nat)} {tl:List AOp} {H HF:Heap} {lsF:List V} : ∀ {fs:Pos} {cs:List AOp} {ls:List V},checks ops pos snaps fs ls.length=some cs→runOps call (cs++tl) ls vs H=some (lsF,HF)→
  (∃ ext,ext.length=cs.length∧runOps call tl (ext++ls) vs H=some (lsF,HF))∧
  ∀ j p k,(j,(p,k))∈fs→∃ ext,check1 ops pos snaps (ext++ls).length j p k=some none∨∃ a v,check1 ops pos snaps (ext++ls).length j p k=some (some a)∧stepO call a (ext++ls) vs H=some (v,H)
 | [],cs,ls,h,hr=>by
  simp only [checks,Option.some.injEq] at h;subst h
  exact ⟨⟨[],rfl,hr⟩,by simp⟩
 | (j,(p,k)) :: fs,cs,ls,h,hr=>by
  simp only [checks] at h
  split at h
  ·cases h
  ·rename_i hc
   obtain ⟨h1,h2⟩:=checks_run h hr
   refine ⟨h1,fun j' p' k' hm=>?_⟩
   rcases List.mem_cons.1 hm with e | hm
   ·cases e;exact ⟨[],.inl hc⟩
   ·exact h2 j' p' k' hm
  ·rename_i a hc
   split at h
   ·rename_i cs' hcs
    simp only [Option.some.injEq] at h;subst h
    simp only [List.cons_append,runOps] at hr
    split at hr
    ·rename_i v H' hs
     obtain rfl:=check1_still hc hs
     have e1:ls.length+1=(v :: ls).length:=rfl
     rw [e1] at hcs
     obtain ⟨⟨ext,g1,g2⟩,h2⟩:=checks_run hcs hr
     refine ⟨⟨ext++[v],by simp [g1],by simpa using g2⟩,fun j' p' k' hm=>?_⟩
     rcases List.mem_cons.1 hm with e | hm
     ·cases e;exact ⟨[],.inr ⟨a,v,hc,hs⟩⟩
     ·obtain ⟨ext',h3⟩:=h2 j' p' k' hm
      exact ⟨ext'++[v],by simpa using h3⟩
    ·cases hr
   ·cases h
theorem mem_of_lookup {α:Type} {l:List (Nat×α)} {j:Nat} {e:α} (h:l.lookup j=some e):(j,e)∈l:=by
 induction l with
 | nil=>simp at h
 | cons x l ih=>
  simp only [List.lookup] at h
  split at h
  ·rename_i hb
   simp only [Option.some.injEq] at h
   rw [beq_iff_eq] at hb
   subst h hb
   simp
  ·exact List.mem_cons_of_mem _ (ih h)
theorem mem_floats {i:Nat} {e:Nat×(Nat×AK)} : ∀ {l:Pos},e∈l→hang i e.1=false→e∈floats hang i l
 | [],h,_=>by simp at h
 | x :: l,h,hh=>by
  simp only [floats]
  rcases List.mem_cons.1 h with rfl | h
  ·rw [hh];simp
  ·split
   ·exact mem_floats h hh
   ·exact List.mem_cons_of_mem _ (mem_floats h hh)
theorem allHang_spec {i:Nat} : ∀ {l:List Nat},allHang hang i l=true→∀ j∈l,hang j i=true
 | [],_,_,h=>by simp at h
 | x :: l,h,j,hj=>by
  simp only [allHang] at h
  split at h
  ·rename_i hx
   rcases List.mem_cons.1 hj with rfl | hj
   ·exact hx
   ·exact allHang_spec h j hj
  ·cases h
theorem pend_of_check {g:Rg} (hvs:g.vs=vs) {rest:List Nat} {H:Heap} {ls:List V} {pos:Pos} {snaps:List (Nat×Nat)} {j:Nat} {id:Option Nat} {i:Nat} (hi:i∈rest) (hh:g.hang i j=false)
  (hk:Known g rest H ls pos snaps j id) (hops:g.l=ops) {ext:List V} {H':Heap} (hn:H.n≤H'.n) {pos':Pos} (hpos':PosOk g.val (ext++ls) pos') (hp':∀ e,pos.lookup j=some e→pos'.lookup j=some e)
  (gsaid:∀ (o:Oper) (q:Option (Nat×Bool)),guardAt o pos' (ext++ls).length=some q→g.Go o→wantedV (ext++ls) q=some true)
  {p:Nat} {k:AK} (hpk:pos.lookup j=some (p,k)) (hc:check1 ops pos' snaps (ext++ls).length j p k=some none∨∃ a v,check1 ops pos' snaps (ext++ls).length j p k=some (some a)∧stepO call a (ext++ls) vs H'=some (v,H')):g.Pend H' j id:=by
 obtain ⟨p',k',o,h1,h2,h3⟩:=hk
 rw [hpk] at h1;cases h1
 refine ⟨o,h2,?_⟩
 rcases h3 with h3 | ⟨hg,opd,ls0,ext0,H0,H1,h4,h5,h6,h7,h8⟩
 ·exact .inl h3
 ·refine .inr ⟨hg,k,?_⟩
  have hval:Holds (ext++ls) p (g.val j):=hpos' j p k (hp' _ hpk)
  have hlen:(ext++ls).length - p=(ext++ext0).length:=by rw [h6];simp;omega
  have hsh:∀ z:Opd,ev (ext++ls) vs (z.sh ((ext++ls).length - p))=ev ls0 vs z:=by
   intro z
   rw [hlen,h6,← List.append_assoc]
   exact ev_sh z
  have hoj:ops[j]? = some o:=by rw [← hops];exact h2
  rcases h8 with ⟨a1,a2,a3⟩ | ⟨a1,a2⟩ | ⟨a1,a2,a3⟩ | ⟨a1,a2,a3,a4,ob,a5,a6⟩
  ·exact .inl ⟨a1,a2,H0,H1,opd,ls0,h4,h5,a3⟩
  ·refine .inr (.inl ⟨a1,a2,opd,ls0,h4,h5,?_⟩)
   rw [hvs]
   cases k <;> simp [AK.cl] at a1
   case load ag n x=>
    rcases hc with hc | ⟨a,v,hc,hs⟩
    ·simp only [check1,hoj] at hc;split at hc <;> simp at hc
    ·simp only [check1,hoj] at hc
     split at hc
     ·cases hc
     ·rename_i q hq
      simp only [Option.some.injEq] at hc;subst hc
      simp only [stepO,gsaid o q hq hg,opc,o_chk,hsh,hval.nth] at hs
      split at hs
      ·rename_i A vv eA evv
       simp only [Option.some.injEq] at evv;subst evv
       split at hs
       ·rename_i v' hr
        split at hs
        ·rename_i hb
         have:=V.beq_sound _ _ hb
         subst this
         simp [opv,o_load,eA,hr,keep]
        ·cases hs
       ·cases hs
      ·cases hs
   case look kk z ok m x=>
    rcases hc with hc | ⟨a,v,hc,hs⟩
    ·simp only [check1,hoj] at hc;split at hc <;> simp at hc
    ·simp only [check1,hoj] at hc
     split at hc
     ·cases hc
     ·rename_i q hq
      simp only [Option.some.injEq] at hc;subst hc
      simp only [stepO,gsaid o q hq hg,opc,o_chkLook,hsh,hval.nth] at hs
      split at hs
      ·rename_i A B vv eA eB evv
       simp only [Option.some.injEq] at evv;subst evv
       split at hs
       ·rename_i v' hr
        split at hs
        ·rename_i hb
         have:=V.beq_sound _ _ hb
         subst this
         simp [opv,o_look,eA,eB,hr,keep]
        ·cases hs
       ·cases hs
      ·cases hs
   case toStr x=>
    rcases hc with hc | ⟨a,v,hc,hs⟩ <;> (simp only [check1,hoj] at hc;split at hc <;> simp [AK.cl] at hc)
   case len q x=>
    cases q <;> simp at a1
    rcases hc with hc | ⟨a,v,hc,hs⟩
    ·simp only [check1,hoj] at hc;split at hc <;> simp at hc
    ·simp only [check1,hoj] at hc
     split at hc
     ·cases hc
     ·rename_i q hq
      simp only [Option.some.injEq] at hc;subst hc
      simp only [stepO,gsaid o q hq hg,opc,o_chkLen,hsh,hval.nth] at hs
      split at hs
      ·rename_i A vv eA evv
       simp only [Option.some.injEq] at evv;subst evv
       split at hs
       ·rename_i v' hr
        split at hs
        ·rename_i hb
         have:=V.beq_sound _ _ hb
         subst this
         simp [opv,o_len,eA,hr,keep]
        ·cases hs
       ·cases hs
      ·cases hs
  ·have:=a3 i hi;rw [hh] at this;cases this
  ·refine .inr (.inr ⟨a1,H0,H1,ob,?_⟩)
   have key:∃ q ob',snaps.lookup j=some q∧H'.get H0.n=some ob'∧Alike ob ob':=by
    have hcx:∃ g0 q,guardAt o pos' (ext++ls).length=some g0∧snaps.lookup j=some q∧∃ v,stepO call ⟨g0,.chkObj ((ext++ls).length - 1 - p) ((ext++ls).length - 1 - q)⟩ (ext++ls) vs H'=some (v,H'):=by
     rcases hc with hc | ⟨a,v,hc,hs⟩
     ·cases k <;> simp [AK.cl] at a1
      case len q x=>cases q <;> simp at a1
      all_goals (simp only [check1,hoj] at hc;repeat' split at hc;all_goals simp_all [AK.cl])
     ·have:∃ g0 q,guardAt o pos' (ext++ls).length=some g0∧snaps.lookup j=some q∧a=⟨g0,.chkObj ((ext++ls).length - 1 - p) ((ext++ls).length - 1 - q)⟩:=by
       cases k <;> simp [AK.cl] at a1
       case len q x=>cases q <;> simp at a1
       all_goals
        simp only [check1,hoj,AK.cl] at hc
        split at hc
        ·cases hc
        ·rename_i g0 hg0
         split at hc
         ·rename_i q hq
          simp only [Option.some.injEq] at hc
          exact ⟨g0,q,hg0,hq,hc.symm⟩
         ·cases hc
      obtain ⟨g0,q,e1,e2,rfl⟩:=this
      exact ⟨g0,q,e1,e2,v,hs⟩
    obtain ⟨g0,q,e1,e2,v,hs⟩:=hcx
    obtain ⟨b1,sv,hsv,b2⟩:=a6 q e2
    have b3:Holds (ext++ls) q sv:=(holds_ext b1 _).2 b2
    simp only [stepO,gsaid o g0 e1 hg,opc,o_chkObj,hval.nth,b3.nth] at hs
    split at hs
    ·rename_i nid hnid
     obtain ⟨_,_,_,hnew⟩:=opv_a a1 (by rw [hvs] at a3;exact a3)
     have:=hnew nid hnid
     subst this
     split at hs
     ·rename_i o' hget
      split at hs
      ·rename_i s' hs'
       split at hs
       ·rename_i hb
        have:=V.beq_sound _ _ hb
        subst this
        exact ⟨q,_,e2,hget,snap_alike hsv hs'⟩
       ·cases hs
      ·cases hs
     ·cases hs
    ·cases hs
   obtain ⟨q,ob',_,k2,k3⟩:=key
   exact ⟨ob',a2,⟨opd,ls0,h4,h5,a3⟩,by omega,a5,k2,k3⟩
end Am
namespace Am
open Go
theorem opv_still {k:AK} (hc:k.cl=.p∨k.cl=.l) {ls vs:List V} {H H1:Heap} {v:V} (h:opv k ls vs H=some (v,H1)):H1=H:=by
 cases k <;> simp [AK.cl] at hc
 all_goals
  simp only [opv,o_mv,o_pick,o_build,o_load,o_nilck,o_bin,o_un,o_toInt,o_strId,o_toStr,o_mkI,o_mkF,o_slS,o_slL,o_slA,o_fadr,o_fld,o_iadr,o_iadrA,o_idxS,o_idxA,o_look,o_len,o_mx,o_mn,o_ext,o_tassert,o_chk,o_chkLook,o_chkLen,o_xcount,o_xindex,o_xcmp,o_snap,o_chkObj,o_die,reduceCtorEq] at h
  try (repeat' split at h)
 all_goals first
  | contradiction
  | (simp only [Option.some.injEq,Prod.mk.injEq] at h;exact h.2.symm)
  | exact (keep_some h).2
theorem appV_grow {H H1:Heap} {esz n:Nat} {s v:V} {src:List V} (h:appV H esz s n src=some (v,H1)):H.n≤H1.n:=by
 unfold appV at h
 repeat' split at h
 all_goals first
  | contradiction
  | (simp only [Option.some.injEq,Prod.mk.injEq] at h;obtain ⟨_,rfl⟩:=h;first | exact Nat.le_refl _ | exact Nat.le_succ _)
theorem opv_grow {k:AK} (hc:k.cl=.x) {ls vs:List V} {H H1:Heap} {v:V} (h:opv k ls vs H=some (v,H1)):H.n≤H1.n:=by
 cases k <;> simp [AK.cl] at hc
 case len q x=>cases q <;> simp at hc
 case store=>
  simp only [opv,o_store] at h
  split at h
  ·split at h
   ·rename_i hw
    simp only [Option.some.injEq,Prod.mk.injEq] at h
    obtain ⟨_,rfl⟩:=h
    unfold wr at hw
    repeat' split at hw
    all_goals first
     | contradiction
     | (simp only [Option.some.injEq] at hw;subst hw;exact Nat.le_refl _)
   ·cases h
  ·cases h
 case app=>
  simp only [opv,o_app] at h
  repeat' split at h
  all_goals first
   | contradiction
   | exact appV_grow h
 case appz=>
  simp only [opv,o_appz] at h
  repeat' split at h
  all_goals first
   | contradiction
   | exact appV_grow h
 all_goals
  simp only [opv,o_mput,o_mdel,o_copy,reduceCtorEq] at h
  try (repeat' split at h)
 all_goals first
  | contradiction
  | (simp only [Option.some.injEq,Prod.mk.injEq] at h;obtain ⟨_,rfl⟩:=h;exact Nat.le_refl _)
end Am
namespace Am
open Go
variable {c:Cx} {ops:List Oper} {hang:Nat→Nat→Bool} {vs:List V} {val:Nat→V} {call:CallF}
theorem look_cons {α:Type} {i j:Nat} {e x:α} {l:List (Nat×α)} (hl:l.lookup i=none) (h:l.lookup j=some x):((i,e) :: l).lookup j=some x:=by
 have:j≠i:=fun e'=>by rw [e',hl] at h;cases h
 simp [List.lookup,beq_false_of_ne this,h]
theorem look_self {α:Type} {i:Nat} {e:α} {l:List (Nat×α)} : ((i,e) :: l).lookup i=some e:=by simp [List.lookup]
theorem look_inv {α:Type} {i j:Nat} {e x:α} {l:List (Nat×α)} (h:((i,e) :: l).lookup j=some x):(j=i∧x=e)∨l.lookup j=some x:=by
 simp only [List.lookup] at h
 split at h
 ·rename_i hb
  simp only [Option.some.injEq] at h
  exact .inl ⟨beq_iff_eq.1 hb,h.symm⟩
 ·exact .inr h
theorem stepO_cases {o:AOp} {ls:List V} {H H':Heap} {v:V} (h:stepO call o ls vs H=some (v,H')):(wantedV ls o.g=some false∧v=.tuple []∧H'=H)∨(wantedV ls o.g=some true∧opc call o.k ls vs H=some (v,H')):=by
 unfold stepO at h
 split at h
 ·cases h
 ·rename_i hw
  simp only [Option.some.injEq,Prod.mk.injEq] at h
  exact .inl ⟨hw,h.1.symm,h.2.symm⟩
 ·rename_i hw;exact .inr ⟨hw,h⟩
theorem PosOk.add {ls:List V} {pos:Pos} {i:Nat} {k:AK} {v:V} (h:PosOk val ls pos) (hv:val i=v):PosOk val (v :: ls) ((i,(ls.length,k)) :: pos):=by
 intro j p k' hj
 rcases look_inv hj with ⟨rfl,e⟩ | hj
 ·cases e;rw [hv];exact Holds.head
 ·have:=h j p k' hj
  exact (holds_ext (ext:=[v]) this.1 _).2 this
theorem PosOk.ext {ls:List V} {pos:Pos} (ext:List V) (h:PosOk val ls pos):PosOk val (ext++ls) pos:=fun j p k hj=>(holds_ext (h j p k hj).1 _).2 (h j p k hj)
theorem emit_tr {extra:List Nat} {HF':Heap} (hcall:CallOk ⟨c.P,c.glob⟩ call):∀ (rest:List Nat) (pos:Pos) (snaps:List (Nat×Nat)) (cur:Nat) (tl:List AOp) (posF:Pos) (snF:List (Nat×Nat)) (curF:Nat),
  c.emit ops hang extra rest pos snaps cur=some (tl,posF,snF,curF)→
  ∀ (ls:List V) (H:Heap) (D:List (Nat×Option Nat)) (lsF:List V) (HF:Heap),ls.length=cur→runOps call tl ls vs H=some (lsF,HF)→PosOk val lsF posF→PosOk val ls pos→(∀ j q,snaps.lookup j=some q→(pos.lookup j).isSome)→
  (∀ j id,(j,id)∈D→Known (c.rg ops hang vs val) (rest++extra) H ls pos snaps j id)→
  (∀ D',(∀ j id,(j,id)∈D'→Known (c.rg ops hang vs val) extra HF lsF posF snF j id)→Tr (c.rg ops hang vs val) D' HF extra HF')→
  Tr (c.rg ops hang vs val) D H (rest++extra) HF':=by
 intro rest
 induction rest with
 | nil=>
  intro pos snaps cur tl posF snF curF he ls H D lsF HF hlen hrun hF hP hsn hD hend
  simp only [Cx.emit,Option.some.injEq,Prod.mk.injEq] at he
  obtain ⟨rfl,rfl,rfl,rfl⟩:=he
  simp only [runOps,Option.some.injEq,Prod.mk.injEq] at hrun
  obtain ⟨rfl,rfl⟩:=hrun
  exact hend D (by simpa using hD)
 | cons i rest ih=>
  intro pos snaps cur tl posF snF curF he ls H D lsF HF hlen hrun hF hP hsn hD hend
  subst hlen
  have hkeep:=emit_keep he
  simp only [Cx.emit] at he
  split at he
  ·cases he
  rename_i o ho
  split at he
  case h_2=>cases he
  rename_i gq hg hl
  have hsi:snaps.lookup i=none:=by
   cases h:snaps.lookup i with
   | none=>rfl
   | some q=>have:=hsn i q h;rw [hl] at this;cases this
  obtain ⟨said1,said2,said3⟩:=guard_said (c:=c) (ops:=ops) (hang:=hang) (vs:=vs) hP hg
  have hsrc:=opd_src (c:=c) (ops:=ops) (hang:=hang) (vs:=vs) hP i o
  generalize hkd:(prepOp c.P (c.opdAt ops pos ls.length i) o.op).getD .die=k at he
  -- the operation has run
  have step:∀ {tl':List AOp},runOps call (⟨gq,k⟩ :: tl') ls vs H=some (lsF,HF)→posF.lookup i=some (ls.length,k)→
    ∃ v H1,val i=v∧runOps call tl' (v :: ls) vs H1=some (lsF,HF)∧(((c.rg ops hang vs val).Skip i o∧H1=H)∨((c.rg ops hang vs val).Go o∧opc call k ls vs H=some (v,H1)∧(k≠.die→prepOp c.P (c.opdAt ops pos ls.length i) o.op=some k))):=by
   intro tl' hr hpi
   simp only [runOps] at hr
   split at hr
   ·rename_i v H1 hs
    obtain ⟨ext,e1,_⟩:=run_ext hr
    have hv1:=hF i _ _ hpi
    rw [e1,show ext++v :: ls=ext++(v :: ls) from rfl,holds_ext (by simp)] at hv1
    have hv:val i=v:=hv1.inj Holds.head
    refine ⟨v,H1,hv,hr,?_⟩
    rcases stepO_cases hs with ⟨h1,h2,h3⟩ | ⟨h1,h2⟩
    ·exact .inl ⟨said2 i h1 (by rw [hv,h2]),h3⟩
    ·refine .inr ⟨said1 h1,h2,fun hne=>?_⟩
     cases hp:prepOp c.P (c.opdAt ops pos ls.length i) o.op with
     | none=>rw [hp] at hkd;exact absurd hkd.symm hne
     | some k'=>rw [hp] at hkd;simp only [Option.getD_some] at hkd;rw [hkd]
   ·cases hr
  -- what was known stays known
  have old:∀ {ext:List V} {H':Heap} {snaps':List (Nat×Nat)},H.n≤H'.n→(∀ j,j≠i→snaps'.lookup j=snaps.lookup j)→∀ j id,(j,id)∈D→Known (c.rg ops hang vs val) (rest++extra) H' (ext++ls) ((i,(ls.length,k)) :: pos) snaps' j id:=by
   intro ext H' snaps' hn hs' j id hj
   have hk:=hD j id hj
   have hji:j≠i:=by
    obtain ⟨p,k',o',h1,_⟩:=hk
    intro e;rw [e,hl] at h1;cases h1
   exact hk.mono (fun x hx=>List.mem_cons_of_mem _ hx) hn rfl (fun e he=>look_cons hl he) (hs' j hji)
  split at he
  ·-- an act
   rename_i hc
   split at he
   case h_2=>cases he
   rename_i hah
   simp only [Bool.and_eq_true] at hah
   have hall:∀ j∈rest++extra,hang j i=true:=fun j hj=>(List.mem_append.1 hj).elim (allHang_spec hah.1 j) (allHang_spec hah.2 j)
   split at he
   case h_2=>cases he
   rename_i cs hcs
   split at he
   case h_2=>cases he
   rename_i tl' r he'
   simp only [Option.some.injEq,Prod.mk.injEq] at he
   obtain ⟨rfl,rfl⟩:=he
   obtain ⟨v,H1,hvi,hr,hcase⟩:=step hrun ((emit_keep he').1 i _ look_self)
   have hP':PosOk val (v :: ls) ((i,(ls.length,k)) :: pos):=hP.add hvi
   obtain ⟨⟨ext,hx1,hx2⟩,hchk⟩:=checks_run (ls:=v :: ls) hcs hr
   have hn:H.n≤H1.n:=by
    rcases hcase with ⟨_,rfl⟩ | ⟨_,h2,h3⟩
    ·exact Nat.le_refl _
    ·rcases opc_x (call:=call) (k:=k) with ⟨f,l,rfl⟩ | ⟨f,l,rfl⟩ | e
     ·simp only [opc,o_call] at h2
      split at h2
      ·exact (hcall _ _ _ _ _ h2).2.1
      ·cases h2
     ·simp only [opc,o_callv] at h2
      split at h2
      ·exact (hcall _ _ _ _ _ h2).2.1
      ·cases h2
     ·rw [e] at h2;exact opv_grow hc h2
   have hkd':k≠.die:=fun e=>by rw [e] at hc;cases hc
   refine .x hall ⟨⟨o,ho,?_⟩,hn,fun j id hj hh=>?_⟩ (ih _ _ _ _ _ _ _ he' (ext++v :: ls) H1 ((i,none) :: D) lsF HF (by simp [hx1];omega) hx2 hF (hP'.ext ext) (fun j q hq=>?_) (fun j id hj=>?_) hend)
   ·rcases hcase with ⟨h1,h2⟩ | ⟨h1,h2,h3⟩
    ·exact .inl ⟨h1,h2⟩
    ·refine .inr ⟨h1,fun E a w hR hrel K Q hK=>?_⟩
     have hO:=hsrc E H w a hR hrel
     have hpk:=h3 hkd'
     have hK':∀ E' w' x,R ⟨c.P,c.glob⟩ E' H1 w'→Good H.n E w E' w'→VR E' v x→K (a.put o.dst x) w':=fun E' w' x h1 h2 h3=>hK E' w' x h1 h2 (by show VR E' (val i) x;rw [hvi];exact h3)
     rcases opc_x (call:=call) (k:=k) with h | h | e
     ·exact (x_call hcall hO hpk (.inl h) h2 hR hK').1
     ·exact (x_call hcall hO hpk (.inr h) h2 hR hK').1
     ·rw [e] at h2
      exact wp_xok (x_all hO hpk hc h2 hR) hK'
   ·have hk:=hD j id hj
    have hk0:=hk
    obtain ⟨p,k',o',h1,_⟩:=hk0
    obtain ⟨ext',hc'⟩:=hchk j p k' (mem_floats (mem_of_lookup h1) hh)
    have e2:ext'++v :: ls=(ext'++[v])++ls:=by simp
    rw [e2] at hc'
    have hP2:PosOk val ((ext'++[v])++ls) ((i,(ls.length,k)) :: pos):=by rw [← e2];exact hP'.ext ext'
    exact pend_of_check (g:=c.rg ops hang vs val) rfl (by simp) hh hk rfl hn hP2 (fun e he=>look_cons hl he) (fun o'' q hq hgo=>(guard_said (c:=c) (ops:=ops) (hang:=hang) (vs:=vs) hP2 hq).2.2 hgo) h1 hc'
   ·have:=hsn j q hq
    obtain ⟨e,he⟩:=Option.isSome_iff_exists.1 this
    rw [look_cons hl he];rfl
   ·rcases List.mem_cons.1 hj with e | hj
    ·cases e
     refine ⟨ls.length,k,o,look_self,ho,?_⟩
     rcases hcase with ⟨h1,_⟩ | ⟨h1,h2,h3⟩
     ·exact .inl ⟨h1,rfl⟩
     ·exact .inr ⟨h1,_,ls,ext++[v],H,H1,hsrc,h3 hkd',by simp,rfl,.inr (.inr (.inl ⟨hc,rfl,hall⟩))⟩
    ·have:=old (ext:=ext++[v]) hn (fun _ _=>rfl) j id hj
     simpa using this
  ·-- a new object
   rename_i hc
   have hkd':k≠.die:=fun e=>by rw [e] at hc;cases hc
   have hop:opc call k=opv k:=opc_eq (by rw [hc];decide)
   -- what holds of it
   have free:∀ {v:V} {H1:Heap},val i=v→(((c.rg ops hang vs val).Skip i o∧H1=H)∨((c.rg ops hang vs val).Go o∧opc call k ls vs H=some (v,H1)∧(k≠.die→prepOp c.P (c.opdAt ops pos ls.length i) o.op=some k)))→
     ∃ id,(c.rg ops hang vs val).Free i H H1 id∧H.n≤H1.n∧(((c.rg ops hang vs val).Skip i o∧id=none)∨((c.rg ops hang vs val).Go o∧id=some H.n∧prepOp c.P (c.opdAt ops pos ls.length i) o.op=some k∧opv k ls vs H=some (val i,H1)∧H.n<H1.n∧(∃ ob,H1.get H.n=some ob)∧∀ nid,newId v=some nid→nid=H.n)):=by
    intro v H1 hvi hcase
    rcases hcase with ⟨h1,rfl⟩ | ⟨h1,h2,h3⟩
    ·exact ⟨none,⟨⟨o,ho,.inl ⟨h1,rfl⟩⟩,.inl ⟨rfl,rfl⟩⟩,Nat.le_refl _,.inl ⟨h1,rfl⟩⟩
    ·rw [hop,← hvi] at h2
     obtain ⟨ob,rfl,hal,hnew⟩:=opv_a hc h2
     have hget:(H.alloc ob).get H.n=some ob:=by rw [Heap.get_alloc,if_pos rfl]
     refine ⟨some H.n,⟨⟨o,ho,.inr ⟨h1,k,.inr (.inr ⟨hc,H,_,ob,ob,rfl,⟨_,ls,hsrc,h3 hkd',h2⟩,Nat.lt_succ_self _,hget,hget,hal⟩)⟩⟩,.inr ⟨ob,rfl,rfl⟩⟩,Nat.le_succ _,.inr ⟨h1,rfl,h3 hkd',h2,Nat.lt_succ_self _,⟨ob,hget⟩,fun nid hn=>hnew nid (by rw [hvi];exact hn)⟩⟩
   split at he
   ·-- with a snapshot
    split at he
    case h_2=>cases he
    rename_i g' hg'
    split at he
    case h_2=>cases he
    rename_i tl' r he'
    simp only [Option.some.injEq,Prod.mk.injEq] at he
    obtain ⟨rfl,rfl⟩:=he
    obtain ⟨v,H1,hvi,hr,hcase⟩:=step hrun ((emit_keep he').1 i _ look_self)
    have hP':PosOk val (v :: ls) ((i,(ls.length,k)) :: pos):=hP.add hvi
    obtain ⟨id,hfree,hn,hid⟩:=free hvi hcase
    simp only [runOps] at hr
    split at hr
    case h_2=>cases hr
    rename_i v2 H2 hs2
    have hs2c:=stepO_cases hs2
    have hg2:guardAt o ((i,(ls.length,k)) :: pos) (v :: ls).length=some g':=hg'
    obtain ⟨t1,t2,t3⟩:=guard_said (c:=c) (ops:=ops) (hang:=hang) (vs:=vs) hP' hg2
    have hsnap:H2=H1∧((c.rg ops hang vs val).Go o→∃ nid ob sv,newId v=some nid∧H1.get nid=some ob∧snapV ob=some sv∧v2=sv):=by
     rcases hs2c with ⟨h1,_,h3⟩ | ⟨h1,h2⟩
     ·refine ⟨h3,fun hgo=>?_⟩
      have:=t3 hgo
      rw [h1] at this;cases this
     ·simp only [opc,o_snap,nth] at h2
      split at h2
      ·rename_i nid hnid
       split at h2
       ·rename_i ob hget
        split at h2
        ·rename_i sv hsv
         simp only [Option.some.injEq,Prod.mk.injEq] at h2
         exact ⟨h2.2.symm,fun _=>⟨nid,ob,sv,hnid,hget,hsv,h2.1.symm⟩⟩
        ·cases h2
       ·cases h2
      ·cases h2
    obtain ⟨rfl,hsn2⟩:=hsnap
    refine .free hfree (ih _ _ _ _ _ _ _ he' (v2 :: v :: ls) H2 ((i,id) :: D) lsF HF (by simp) hr hF (PosOk.ext [v2] hP') (fun j q hq=>?_) (fun j jd hj=>?_) hend)
    ·rcases look_inv hq with ⟨rfl,_⟩ | hq
     ·rw [look_self];rfl
     ·obtain ⟨e,he⟩:=Option.isSome_iff_exists.1 (hsn j q hq)
      rw [look_cons hl he];rfl
    ·rcases List.mem_cons.1 hj with e | hj
     ·cases e
      refine ⟨ls.length,k,o,look_self,ho,?_⟩
      rcases hid with ⟨h1,h2⟩ | ⟨h1,rfl,h3,h4,h5,⟨ob,h6⟩,h7⟩
      ·exact .inl ⟨h1,h2⟩
      ·refine .inr ⟨h1,_,ls,[v2,v],H,H2,hsrc,h3,rfl,rfl,.inr (.inr (.inr ⟨hc,rfl,h4,h5,ob,h6,fun q hq=>?_⟩))⟩
       rw [look_self] at hq
       simp only [Option.some.injEq] at hq;subst hq
       obtain ⟨nid,ob',sv,e1,e2,e3,rfl⟩:=hsn2 h1
       obtain rfl:=h7 nid e1
       rw [h6] at e2
       cases e2
       exact ⟨by simp,_,e3,Holds.head (ls:=v :: ls)⟩
     ·exact old (ext:=[v2,v]) hn (fun j' hne=>by simp [List.lookup,beq_false_of_ne hne]) j jd hj
   ·-- without
    split at he
    case h_2=>cases he
    rename_i tl' r he'
    simp only [Option.some.injEq,Prod.mk.injEq] at he
    obtain ⟨rfl,rfl⟩:=he
    obtain ⟨v,H1,hvi,hr,hcase⟩:=step hrun ((emit_keep he').1 i _ look_self)
    have hP':PosOk val (v :: ls) ((i,(ls.length,k)) :: pos):=hP.add hvi
    obtain ⟨id,hfree,hn,hid⟩:=free hvi hcase
    refine .free hfree (ih _ _ _ _ _ _ _ he' (v :: ls) H1 ((i,id) :: D) lsF HF (by simp) hr hF hP' (fun j q hq=>?_) (fun j jd hj=>?_) hend)
    ·obtain ⟨e,he⟩:=Option.isSome_iff_exists.1 (hsn j q hq)
     rw [look_cons hl he];rfl
    ·rcases List.mem_cons.1 hj with e | hj
     ·cases e
      refine ⟨ls.length,k,o,look_self,ho,?_⟩
      rcases hid with ⟨h1,h2⟩ | ⟨h1,rfl,h3,h4,h5,⟨ob,h6⟩,h7⟩
      ·exact .inl ⟨h1,h2⟩
      ·refine .inr ⟨h1,_,ls,[v],H,H1,hsrc,h3,rfl,rfl,.inr (.inr (.inr ⟨hc,rfl,h4,h5,ob,h6,fun q hq=>?_⟩))⟩
       rw [hsi] at hq;cases hq
     ·exact old (ext:=[v]) hn (fun _ _=>rfl) j jd hj
  ·-- what leaves the memory alone
   rename_i hc1 hc2
   split at he
   case h_2=>cases he
   rename_i tl' r he'
   simp only [Option.some.injEq,Prod.mk.injEq] at he
   obtain ⟨rfl,rfl⟩:=he
   obtain ⟨v,H1,hvi,hr,hcase⟩:=step hrun ((emit_keep he').1 i _ look_self)
   have hP':PosOk val (v :: ls) ((i,(ls.length,k)) :: pos):=hP.add hvi
   have hpl:k.cl=.p∨k.cl=.l:=by
    cases h:k.cl
    ·exact .inl rfl
    ·exact .inr rfl
    ·exact (hc2 h).elim
    ·exact (hc1 h).elim
   have hop:opc call k=opv k:=opc_eq (fun h=>hc1 h)
   have hH:H1=H:=by
    rcases hcase with ⟨_,h⟩ | ⟨_,h2,_⟩
    ·exact h
    ·rw [hop] at h2;exact opv_still hpl h2
   subst hH
   have hkd':(c.rg ops hang vs val).Go o→opc call k ls vs H1=some (v,H1)→k≠.die:=by
    intro _ h e
    rw [e] at h
    simp [opc,o_die] at h
   have hpend:(c.rg ops hang vs val).Pend H1 i none:=by
    refine ⟨o,ho,?_⟩
    rcases hcase with ⟨h1,_⟩ | ⟨h1,h2,h3⟩
    ·exact .inl ⟨h1,rfl⟩
    ·refine .inr ⟨h1,k,?_⟩
     have h3':=h3 (hkd' h1 h2)
     rw [hop,← hvi] at h2
     rcases hpl with hc | hc
     ·exact .inl ⟨hc,rfl,H1,H1,_,ls,hsrc,h3',h2⟩
     ·exact .inr (.inl ⟨hc,rfl,_,ls,hsrc,h3',h2⟩)
   refine .free ⟨hpend,.inl ⟨rfl,rfl⟩⟩ (ih _ _ _ _ _ _ _ he' (v :: ls) H1 ((i,none) :: D) lsF HF (by simp) hr hF hP' (fun j q hq=>?_) (fun j jd hj=>?_) hend)
   ·obtain ⟨e,he⟩:=Option.isSome_iff_exists.1 (hsn j q hq)
    rw [look_cons hl he];rfl
   ·rcases List.mem_cons.1 hj with e | hj
    ·cases e
     refine ⟨ls.length,k,o,look_self,ho,?_⟩
     rcases hcase with ⟨h1,_⟩ | ⟨h1,h2,h3⟩
     ·exact .inl ⟨h1,rfl⟩
     ·have h3':=h3 (hkd' h1 h2)
      rw [hop,← hvi] at h2
      refine .inr ⟨h1,_,ls,[v],H1,H1,hsrc,h3',rfl,rfl,?_⟩
      rcases hpl with hc | hc
      ·exact .inl ⟨hc,rfl,h2⟩
      ·exact .inr (.inl ⟨hc,rfl⟩)
    ·exact old (ext:=[v]) (Nat.le_refl _) (fun _ _=>rfl) j jd hj
end Am
namespace Am
open Go
variable {c:Cx} {ops:List Oper} {hang:Nat→Nat→Bool} {vs:List V} {call:CallF}
theorem emit_bound {extra:List Nat} : ∀ {rest:List Nat} {pos:Pos} {snaps:List (Nat×Nat)} {cur:Nat} {tl:List AOp} {posF:Pos} {snF:List (Nat×Nat)} {curF:Nat},
  c.emit ops hang extra rest pos snaps cur=some (tl,posF,snF,curF)→(∀ j p k,pos.lookup j=some (p,k)→p<cur)→∀ j p k,posF.lookup j=some (p,k)→p<curF
 | [],pos,snaps,cur,tl,posF,snF,curF,h,hp=>by
  simp only [Cx.emit,Option.some.injEq,Prod.mk.injEq] at h
  obtain ⟨rfl,rfl,rfl,rfl⟩:=h
  exact hp
 | i :: rest,pos,snaps,cur,tl,posF,snF,curF,h,hp=>by
  simp only [Cx.emit] at h
  split at h
  ·cases h
  rename_i o ho
  split at h
  case h_2=>cases h
  rename_i g hg hl
  have go:∀ {k snaps' cur' tl' posF' snF' curF'},cur<cur'→c.emit ops hang extra rest ((i,(cur,k)) :: pos) snaps' cur'=some (tl',posF',snF',curF')→∀ j p k,posF'.lookup j=some (p,k)→p<curF':=by
   intro k snaps' cur' tl' posF' snF' curF' hlt he
   refine emit_bound he fun j p k hj=>?_
   rcases look_inv hj with ⟨_,e⟩ | hj
   ·cases e;exact hlt
   ·have:=hp j p k hj;omega
  split at h
  ·split at h
   ·split at h
    ·split at h
     ·rename_i he
      simp only [Option.some.injEq,Prod.mk.injEq] at h
      obtain ⟨rfl,rfl⟩:=h
      exact go (by omega) he
     ·cases h
    ·cases h
   ·cases h
  ·split at h
   ·split at h
    ·split at h
     ·rename_i he
      simp only [Option.some.injEq,Prod.mk.injEq] at h
      obtain ⟨rfl,rfl⟩:=h
      exact go (by omega) he
     ·cases h
    ·cases h
   ·split at h
    ·rename_i he
     simp only [Option.some.injEq,Prod.mk.injEq] at h
     obtain ⟨rfl,rfl⟩:=h
     exact go (by omega) he
    ·cases h
  ·split at h
   ·rename_i he
    simp only [Option.some.injEq,Prod.mk.injEq] at h
    obtain ⟨rfl,rfl⟩:=h
    exact go (by omega) he
   ·cases h
def valOf (ls:List V) (pos:Pos) (j:Nat):V:=
 match pos.lookup j with
 | some (p,_)=>(ls[ls.length - 1 - p]?).getD .any
 | none=>.any
theorem valOf_ok {ls:List V} {pos:Pos} (h:∀ j p k,pos.lookup j=some (p,k)→p<ls.length):PosOk (valOf ls pos) ls pos:=by
 intro j p k hj
 have hp:=h j p k hj
 refine ⟨hp,?_⟩
 unfold valOf
 rw [hj]
 simp only
 have:ls.length - 1 - p<ls.length:=by omega
 simp [this]
theorem covers_spec {pos:Pos} : ∀ {n:Nat},covers pos n=true→∀ i,i<n→(pos.lookup i).isSome=true
 | 0,_,i,h=>absurd h (Nat.not_lt_zero _)
 | n+1,h,i,hi=>by
  simp only [covers,Bool.and_eq_true] at h
  rcases Nat.lt_or_eq_of_le (Nat.lt_succ_iff.1 hi) with h' | rfl
  ·exact covers_spec h.2 i h'
  ·exact h.1
theorem get_setV:∀ (l:List V) (s:Nat) (v:V) (i:Nat),(setV l s v)[i]? = if i=s∧s<l.length then some v else l[i]?
 | [],s,v,i=>by simp [setV]
 | a :: l,0,v,i=>by cases i <;> simp [setV]
 | a :: l,s+1,v,i=>by
  cases i with
  | zero=>simp [setV]
  | succ i=>
   simp only [setV,List.getElem?_cons_succ,get_setV l s v i,List.length_cons]
   by_cases h:i=s∧s<l.length
   ·rw [if_pos h,if_pos (by omega)]
   ·rw [if_neg h,if_neg (by omega)]
theorem outsV_spec {ls:List V} : ∀ {outs:List (Nat×Nat)} {vs vs':List V},outsV ls outs vs=some vs'→∀ (s:Nat) (v:V),vs'[s]? = some v→(∃ p,(s,p)∈outs∧ls[p]? = some v)∨((∀ p,(s,p)∉outs)∧vs[s]? = some v)
 | [],vs,vs',h,s,v,hv=>by
  simp only [outsV,Option.some.injEq] at h;subst h
  exact .inr ⟨by simp,hv⟩
 | (i,p) :: outs,vs,vs',h,s,v,hv=>by
  simp only [outsV,nth_eq] at h
  split at h
  ·rename_i u hu
   rcases outsV_spec h s v hv with ⟨p',h1,h2⟩ | ⟨h1,h2⟩
   ·exact .inl ⟨p',by simp [h1],h2⟩
   ·rw [get_setV] at h2
    split at h2
    ·rename_i hc
     obtain ⟨rfl,_⟩:=hc
     simp only [Option.some.injEq] at h2;subst h2
     exact .inl ⟨p,by simp,hu⟩
    ·rename_i hc
     by_cases hsi:s=i
     ·subst hsi
      have:¬ s<vs.length:=fun h=>hc ⟨rfl,h⟩
      rw [List.getElem?_eq_none (by omega)] at h2
      cases h2
     ·refine .inr ⟨fun p' hp'=>?_,h2⟩
      rcases List.mem_cons.1 hp' with e | hp'
      ·cases e;exact hsi rfl
      ·exact h1 p' hp'
  ·cases h
theorem outs_spec {pos:Pos} {cur:Nat} : ∀ {ts:List Tmp} {s0:Nat} {outs:List (Nat×Nat)},Cx.outs ops pos cur ts s0=some outs→
  (∀ s p,(s,p)∈outs→∃ (m:Nat) (t:Tmp) (j q:Nat) (k:AK),s=s0+m∧ts[m]? = some t∧lastW ops t ops.length=some j∧pos.lookup j=some (q,k)∧p=cur - 1 - q)∧
  ∀ (m:Nat) (t:Tmp),ts[m]? = some t→(∀ p,(s0+m,p)∉outs)→lastW ops t ops.length=none
 | [],s0,outs,h=>by
  simp only [Cx.outs,Option.some.injEq] at h;subst h
  exact ⟨by simp,by simp⟩
 | t :: ts,s0,outs,h=>by
  simp only [Cx.outs] at h
  split at h
  ·rename_i hl
   obtain ⟨h1,h2⟩:=outs_spec h
   refine ⟨fun s p hm=>?_,fun m t' hm hno=>?_⟩
   ·obtain ⟨m,t',j,q,k,e1,e2,e3⟩:=h1 s p hm
    exact ⟨m+1,t',j,q,k,by omega,by simpa using e2,e3⟩
   ·cases m with
    | zero=>simp at hm;subst hm;exact hl
    | succ m=>exact h2 m t' (by simpa using hm) fun p hp=>hno p (by rw [show s0+(m+1)=s0+1+m from by omega];exact hp)
  ·rename_i j hl
   split at h
   ·rename_i q k r hq hr
    simp only [Option.some.injEq] at h;subst h
    obtain ⟨h1,h2⟩:=outs_spec hr
    refine ⟨fun s p hm=>?_,fun m t' hm hno=>?_⟩
    ·rcases List.mem_cons.1 hm with e | hm
     ·cases e;exact ⟨0,t,j,q,k,rfl,rfl,hl,hq,rfl⟩
     ·obtain ⟨m,t',j',q',k',e1,e2,e3⟩:=h1 s p hm
      exact ⟨m+1,t',j',q',k',by omega,by simpa using e2,e3⟩
    ·cases m with
     | zero=>exact absurd (List.mem_cons_self) (hno (cur - 1 - q))
     | succ m=>exact h2 m t' (by simpa using hm) fun p hp=>hno p (by rw [show s0+(m+1)=s0+1+m from by omega];exact List.mem_cons_of_mem _ hp)
   ·cases h
theorem idx_some {l:List Nat} {t s:Nat} (h:l.idxOf? t=some s):l[s]? = some t:=by
 induction l generalizing s with
 | nil=>simp at h
 | cons a l ih=>
  rw [List.idxOf?_cons] at h
  split at h
  ·rename_i hb
   simp only [Option.some.injEq] at h;subst h
   simp [beq_iff_eq.1 hb]
  ·obtain ⟨s',hs',rfl⟩:=Option.map_eq_some_iff.1 h
   simpa using ih hs'
theorem vars_after {g:Rg} {E0 E:Env} {H0 HF:Heap} {w0 w:World} {a0 a:Act} {N:Nat} (hp:g.Post E0 H0 w0 a0 N HF E a w) (h0:g.V0 E0 a0) {pos:Pos} {ls:List V} (hP:PosOk g.val ls pos)
  {outs:List (Nat×Nat)} (ho:Cx.outs g.l pos ls.length g.slots 0=some outs) {vs':List V} (hv:outsV ls outs g.vs=some vs') (t:Tmp) (s:Nat) (v:V) (hs:g.slots.idxOf? t=some s) (hsv:vs'[s]? = some v):VR E v (a.eval (.tmp t)):=by
 obtain ⟨h1,h2⟩:=outs_spec ho
 have hst:=idx_some hs
 have hspec:=lastW_spec g.l t g.l.length
 rcases outsV_spec hv s v hsv with ⟨p,hp1,hp2⟩ | ⟨hn,hvs⟩
 ·obtain ⟨m,t',j,q,k,e1,e2,e3,e4,rfl⟩:=h1 s p hp1
  rw [Nat.zero_add] at e1;subst e1
  rw [hst] at e2;cases e2
  rw [e3] at hspec
  have:=(hP j q k e4).2
  rw [hp2] at this
  simp only [Option.some.injEq] at this;subst this
  exact hp.wrote t j hspec
 ·have hl:=h2 s t hst (by simpa using hn)
  rw [hl] at hspec
  rw [hp.kept t hspec]
  exact (h0 t s v hs hvs).mono hp.good.le
end Am
namespace Am
open Go
variable {c:Cx} {vs:List V} {call:CallF}
def VarsR (slots:List Tmp) (vs:List V) (E:Env) (a:Act):Prop:=∀ (t:Tmp) (s:Nat) (v:V),slots.idxOf? t=some s→vs[s]? = some v→VR E v (a.eval (.tmp t))
def CodeOk (c:Cx) (code:Code) (vs:List V) (h:Heap) (ex:Ex) (vs':List V) (h':Heap):Prop:=
 ∀ (E:Env) (w:World) (a:Act) (N:Nat) (Q:Exit→Act→World→Prop),c.ntmps≤N→R ⟨c.P,c.glob⟩ E h w→VarsR c.slots vs E a→a.tmps.size=N→
  (∀ E' a' w',R ⟨c.P,c.glob⟩ E' h' w'→Good h.n E w E' w'→VarsR c.slots vs' E' a'→a'.tmps.size=N→a'.defers=a.defers→Q (match ex with | .normal=>.normal | .exit i=>.exit i | .ret=>.ret) a' w')→code.wp c.P Q a w
theorem reg_fin {l:List Oper} {hang:Nat→Nat→Bool} {ord:List Nat} {as:List AOp} {pos:Pos} {snaps:List (Nat×Nat)} {cur:Nat} {h hF h':Heap} {lsF:List V} {outs:List (Nat×Nat)} {vs':List V} {ops:Array Oper} {draw:Bool}
  (hl:l=ops.toList) (hm:c.P.follows .mixedOrders=true)
  (hT:tmpsOk l hang c.ntmps (writersOf l 0) 0 l=true) (hE:draw=true→∃ ms,hang=hangM ms∧masksOk ms 0 l=true) (hT':draw=false→∀ i j,hang i j=true→j<i)
  {extra:List Nat} (he:c.emit l hang extra ord [] [] 0=some (as,pos,snaps,cur)) (hrun:runOps call as [] vs h=some (lsF,hF))
  (tr:Tr (c.rg l hang vs (valOf lsF pos)) [] h (ord++extra) h') (hnd:(ord++extra).Nodup) (hcov:∀ i,i<l.length→i∈ord++extra)
  (ho:Cx.outs l pos cur c.slots 0=some outs) (hv:outsV lsF outs vs=some vs') (id:Nat):CodeOk c (.region id ops draw) vs h .normal vs' h':=by
 intro E w a N Q hN hR hV ha hQ
 obtain ⟨ext,e1,e2⟩:=run_ext hrun
 have hcur:cur=lsF.length:=by
  have:=(emit_keep he).2.1
  rw [e1];simp [e2,this]
 subst hcur
 obtain ⟨hL,hd⟩:=laws_ok (g:=c.rg l hang vs (valOf lsF pos)) hT
 have hP:PosOk (valOf lsF pos) lsF pos:=valOf_ok (emit_bound he (by simp))
 have post:∀ E' a' w',(c.rg l hang vs (valOf lsF pos)).Post E h w a N h' E' a' w'→Q .normal a' w':=fun E' a' w' hp=>
  hQ E' a' w' hp.rel hp.good (fun t s v hs hsv=>vars_after hp hV hP ho hv t s v hs hsv) hp.size hp.defers
 have hd':∀ (i:Nat) (o:Oper) (d:Tmp),(c.rg l hang vs (valOf lsF pos)).l[i]? = some o→o.dst=some d→d<N:=fun i o d h1 h2=>Nat.lt_of_lt_of_le (hd i o d h1 h2) hN
 cases draw with
 | false=>exact region_text (g:=c.rg l hang vs (valOf lsF pos)) hL hV hd' hl (hT' rfl) hR ha tr hnd hcov post
 | true=>
  obtain ⟨ms,rfl,hM⟩:=hE rfl
  exact region_any (g:=c.rg l (hangM ms) vs (valOf lsF pos)) hm hL (edges_ok rfl hM) hV hd' hl hR ha tr hnd hcov post
theorem known_nil {g:Rg} {rest:List Nat} {H:Heap} {ls:List V} {pos:Pos} {snaps:List (Nat×Nat)} : ∀ j id,(j,id)∈([]:List (Nat×Option Nat))→Known g rest H ls pos snaps j id:=fun _ _ h=>by simp at h
theorem plain_ok {hang:Nat→Nat→Bool} {ord:List Nat} {ac:AC} {ops:Array Oper} {draw:Bool} (hm:c.P.follows .mixedOrders=true) (hcall:CallOk ⟨c.P,c.glob⟩ call)
  (hT:tmpsOk ops.toList hang c.ntmps (writersOf ops.toList 0) 0 ops.toList=true) (hE:draw=true→∃ ms,hang=hangM ms∧masksOk ms 0 ops.toList=true) (hT':draw=false→∀ i j,hang i j=true→j<i)
  (hp:c.plain ops.toList hang ord=some ac) {fuel:Nat} {h h':Heap} {ex:Ex} {vs':List V} (hx:exec call fuel ac vs h=some (ex,vs',h')) (id:Nat):ex=.normal∧CodeOk c (.region id ops draw) vs h .normal vs' h':=by
 unfold Cx.plain at hp
 split at hp
 case h_2=>cases hp
 rename_i as pos snaps cur he
 split at hp
 case h_2=>cases hp
 rename_i hcv
 obtain ⟨outs,ho,rfl⟩:=Option.map_eq_some_iff.1 hp
 simp only [exec,x_reg] at hx
 split at hx
 case h_2=>cases hx
 rename_i lsF hF hrun
 split at hx
 case h_2=>cases hx
 rename_i vs2 hv
 simp only [Option.some.injEq,Prod.mk.injEq] at hx
 obtain ⟨rfl,rfl,rfl⟩:=hx
 obtain ⟨k1,k2,k3,k4,k5⟩:=emit_keep he
 obtain ⟨ext,e1,e2⟩:=run_ext hrun
 have hP:PosOk (valOf lsF pos) lsF pos:=valOf_ok (by
  have:=emit_bound he (by simp)
  intro j p k hj
  have:=this j p k hj
  rw [e1];simp [e2];omega)
 have tr:=emit_tr (c:=c) (ops:=ops.toList) (hang:=hang) (vs:=vs) (val:=valOf lsF pos) (extra:=[]) (HF':=hF) hcall ord [] [] 0 as pos snaps cur he [] h [] lsF hF rfl hrun hP (by intro j p k hj;simp at hj) (by simp) known_nil (fun D' _=>.nil)
 refine ⟨rfl,reg_fin rfl hm hT hE hT' he hrun tr (by simpa using k4) (fun i hi=>?_) ho hv id⟩
 have:=covers_spec hcv i hi
 obtain ⟨e,he'⟩:=Option.isSome_iff_exists.1 this
 rcases k5 i e he' with h | h
 ·simp at h
 ·simpa using h
theorem wr_inv {h h':Heap} {n id off ver hi:Nat} {x:V} (hw:wr h n (.ptr id off ver hi) x=some h'):∃ ob,h'=h.set id ob∧∀ h2:Heap,h2.get id=h.get id→wr h2 n (.ptr id off ver hi) x=some (h2.set id ob):=by
 simp only [wr] at hw
 split at hw
 ·rename_i c cur low hg
  split at hw
  ·rename_i hc
   simp only [Option.some.injEq] at hw
   refine ⟨_,hw.symm,fun h2 h3=>?_⟩
   simp only [wr,h3,hg,hc]
  ·cases hw
 ·cases hw
theorem Same.symm {a b:Heap} (h:Same a b):Same b a:=⟨h.1.symm,fun id=>(h.2 id).symm⟩
theorem same_swap {h:Heap} {i j:Nat} {a b:Obj} (hij:i≠j):Same ((h.set j b).set i a) ((h.set i a).set j b):=by
 refine ⟨rfl,fun id=>?_⟩
 simp only [Heap.get_set]
 by_cases h1:id=i
 ·subst h1;simp [hij]
 ·simp [h1]
theorem store_swap {ls:List V} {n n':Nat} {A X A' X':Opd} {i j:Nat} {h h1 h2:Heap} {v1 v2:V} (hi:target ls vs ⟨none,.store n A X⟩=some i) (hj:target ls vs ⟨none,.store n' A' X'⟩=some j) (hij:i≠j)
  (e1:opv (.store n A X) ls vs h=some (v1,h1)) (e2:opv (.store n' A' X') ls vs h1=some (v2,h2)) :
  v1=.any∧v2=.any∧∃ h1' h2',opv (.store n' A' X') ls vs h=some (.any,h1')∧opv (.store n A X) ls vs h1'=some (.any,h2')∧Same h2' h2:=by
 simp only [target] at hi hj
 split at hi
 case h_2=>cases hi
 rename_i i0 o0 r0 t0 eA
 simp only [Option.some.injEq] at hi;subst hi
 split at hj
 case h_2=>cases hj
 rename_i j0 o1 r1 t1 eA'
 simp only [Option.some.injEq] at hj;subst hj
 simp only [opv,o_store,eA] at e1
 simp only [opv,o_store,eA'] at e2
 split at e1
 case h_2=>cases e1
 rename_i Av Xv eAv eX
 simp only [Option.some.injEq] at eAv;subst eAv
 split at e1
 case h_2=>cases e1
 rename_i g1 w1
 simp only [Option.some.injEq,Prod.mk.injEq] at e1
 obtain ⟨rfl,rfl⟩:=e1
 split at e2
 case h_2=>cases e2
 rename_i Av' Xv' eAv' eX'
 simp only [Option.some.injEq] at eAv';subst eAv'
 split at e2
 case h_2=>cases e2
 rename_i g2 w2
 simp only [Option.some.injEq,Prod.mk.injEq] at e2
 obtain ⟨rfl,rfl⟩:=e2
 obtain ⟨ob1,rfl,f1⟩:=wr_inv w1
 obtain ⟨ob2,rfl,f2⟩:=wr_inv w2
 refine ⟨rfl,rfl,h.set j0 ob2,(h.set j0 ob2).set i0 ob1,?_,?_,same_swap hij⟩
 ·have:=f2 h (by rw [Heap.get_set,if_neg (fun e=>hij e.symm)])
  simp only [opv,o_store,eA',eX',this]
 ·have:=f1 (h.set j0 ob2) (by rw [Heap.get_set,if_neg hij])
  simp only [opv,o_store,eA,eX,this]
theorem checks_nil {ops:List Oper} {pos:Pos} {snaps:List (Nat×Nat)} {cur:Nat} : ∀ {fs:Pos},checks ops pos snaps fs cur=some []→∀ j p k,(j,(p,k))∈fs→check1 ops pos snaps cur j p k=some none
 | [],_,j,p,k,h=>by simp at h
 | (j0,(p0,k0)) :: fs,h,j,p,k,hm=>by
  simp only [checks] at h
  split at h
  ·cases h
  ·rename_i hc
   rcases List.mem_cons.1 hm with e | hm
   ·cases e;exact hc
   ·exact checks_nil h j p k hm
  ·split at h <;> simp at h
theorem check1_none {ops:List Oper} {pos:Pos} {snaps:List (Nat×Nat)} {cur j p:Nat} {k:AK} (h:check1 ops pos snaps cur j p k=some none):k.cl=.p:=by
 unfold check1 at h
 repeat' split at h
 all_goals first
  | contradiction
  | assumption
  | (simp only [Option.some.injEq,reduceCtorEq] at h)
theorem twin_ok {hang:Nat→Nat→Bool} {ord:List Nat} {x y:Nat} {ac:AC} {ops:Array Oper} {draw:Bool} (hm:c.P.follows .mixedOrders=true) (hcall:CallOk ⟨c.P,c.glob⟩ call)
  (hT:tmpsOk ops.toList hang c.ntmps (writersOf ops.toList 0) 0 ops.toList=true) (hE:draw=true→∃ ms,hang=hangM ms∧masksOk ms 0 ops.toList=true) (hT':draw=false→∀ i j,hang i j=true→j<i)
  (hp:c.twin ops.toList hang ord x y=some ac) {fuel:Nat} {h h':Heap} {ex:Ex} {vs':List V} (hx:exec call fuel ac vs h=some (ex,vs',h')) (id:Nat):ex=.normal∧CodeOk c (.region id ops draw) vs h .normal vs' h':=by
 unfold Cx.twin at hp
 split at hp
 case h_2=>cases hp
 rename_i as pos snaps cur he
 split at hp
 case h_2=>cases hp
 rename_i ox oy hox hoy
 split at hp
 case h_2=>cases hp
 rename_i n A X n' A' X' hgx hgy hdx hdy hkx hky
 split at hp
 case h_2=>cases hp
 rename_i hcx hcy hlx hly hxy hcv
 obtain ⟨outs,ho,rfl⟩:=Option.map_eq_some_iff.1 hp
 simp only [exec,x_reg2] at hx
 split at hx
 case h_2=>cases hx
 rename_i lsF hF hrun
 split at hx
 case h_2=>cases hx
 rename_i ia ib hia hib
 split at hx
 ·cases hx
 rename_i hab
 split at hx
 case h_2=>cases hx
 rename_i v1 h1 es1
 split at hx
 case h_2=>cases hx
 rename_i v2 h2 es2
 split at hx
 case h_2=>cases hx
 rename_i vs2 hv
 simp only [Option.some.injEq,Prod.mk.injEq] at hx
 obtain ⟨rfl,rfl,rfl⟩:=hx
 obtain ⟨k1,k2,k3,k4,k5⟩:=emit_keep he
 obtain ⟨ext,e1,e2⟩:=run_ext hrun
 have hcur:cur=lsF.length:=by rw [e1];simp [e2,k2]
 have hP:PosOk (valOf lsF pos) lsF pos:=valOf_ok (by
  have:=emit_bound he (by simp)
  intro j p k hj
  have:=this j p k hj
  omega)
 have hne:x≠y:=fun e=>by rw [nbeq.2 e] at hxy;cases hxy
 have hij:ia≠ib:=fun e=>by rw [nbeq.2 e] at hab;cases hab
 obtain ⟨rfl,rfl,g1,g2,f1,f2,f3⟩:=store_swap hia hib hij es1 es2
 have hvx:valOf lsF pos x=.any:=by unfold valOf;rw [hlx]
 have hvy:valOf lsF pos y=.any:=by unfold valOf;rw [hly]
 subst hcur
 -- a store at the end
 have xat:∀ {z:Nat} {oz:Oper} {m:Nat} {B Y:Opd} {D:List (Nat×Option Nat)} {P Q:Heap},ops.toList[z]? = some oz→oz.guard=none→prepOp c.P (c.opdAt ops.toList pos lsF.length z) oz.op=some (.store m B Y)→valOf lsF pos z=.any→
   opv (.store m B Y) lsF vs P=some (.any,Q)→checks ops.toList pos snaps (floats hang z pos) lsF.length=some []→
   (∀ j id,(j,id)∈D→Known (c.rg ops.toList hang vs (valOf lsF pos)) [x,y] hF lsF pos snaps j id)→(c.rg ops.toList hang vs (valOf lsF pos)).XAt D P z Q:=by
  intro z oz m B Y D P Q hz hgz hkz hvz hop hc hD
  refine ⟨⟨oz,hz,.inr ⟨.inl hgz,fun E a w hR hrel K Q' hK=>?_⟩⟩,opv_grow rfl hop,fun j jd hj hh=>?_⟩
  ·have hO:=opd_src (c:=c) (ops:=ops.toList) (hang:=hang) (vs:=vs) hP z oz E P w a hR hrel
   refine wp_xok (x_all hO hkz rfl hop hR) fun E' w' x' q1 q2 q3=>hK E' w' x' q1 q2 ?_
   show VR E' (valOf lsF pos z) x'
   rw [hvz];exact .any _
  ·obtain ⟨p,k,o,q1,q2,q3⟩:=hD j jd hj
   have hck:=check1_none (checks_nil hc j p k (mem_floats (mem_of_lookup q1) hh))
   refine ⟨o,q2,?_⟩
   rcases q3 with q3 | ⟨hg,opd,ls0,ext',A0,A1,q4,q5,q6,q7,q8⟩
   ·exact .inl q3
   ·refine .inr ⟨hg,k,?_⟩
    rcases q8 with ⟨a1,a2,a3⟩ | ⟨a1,_⟩ | ⟨a1,_⟩ | ⟨a1,_⟩
    ·exact .inl ⟨a1,a2,A0,A1,opd,ls0,q4,q5,a3⟩
    all_goals rw [hck] at a1;cases a1
 have tr:=emit_tr (c:=c) (ops:=ops.toList) (hang:=hang) (vs:=vs) (val:=valOf lsF pos) (extra:=[x,y]) (HF':=h2) hcall ord [] [] 0 as pos snaps lsF.length he [] h [] lsF hF rfl hrun hP (by intro j p k hj;simp at hj) (by simp) known_nil
  (fun D' hD'=>.two (xat hox hgx hkx hvx es1 hcx hD') (xat hoy hgy hky hvy es2 hcy hD') (xat hoy hgy hky hvy f1 hcy hD') (xat hox hgx hkx hvx f2 hcx hD') ⟨rfl,fun _=>rfl⟩ f3)
 have hno:∀ i∈ord,i≠x∧i≠y:=by
  intro i hi
  have:=(k3 i hi).1
  constructor <;> (rintro rfl;simp_all)
 refine ⟨rfl,reg_fin rfl hm hT hE hT' he hrun tr ?_ (fun i hi=>?_) ho hv id⟩
 ·rw [List.nodup_append]
  refine ⟨k4,by simp [hne],fun a ha b hb e=>?_⟩
  subst e
  have:=hno a ha
  simp at hb
  rcases hb with rfl | rfl
  ·exact this.1 rfl
  ·exact this.2 rfl
 ·obtain ⟨e,he'⟩:=Option.isSome_iff_exists.1 (covers_spec hcv i hi)
  rcases look_inv he' with ⟨rfl,_⟩ | he'
  ·simp
  ·rcases look_inv he' with ⟨rfl,_⟩ | he'
   ·simp
   ·rcases k5 i e he' with h | h
    ·simp at h
    ·simp [h]
theorem region_ok {ac:AC} {ops:Array Oper} {draw:Bool} (hm:c.P.follows .mixedOrders=true) (hcall:CallOk ⟨c.P,c.glob⟩ call) (hp:c.region ops draw=some ac) {fuel:Nat} {h h':Heap} {ex:Ex} {vs':List V}
  (hx:exec call fuel ac vs h=some (ex,vs',h')) (id:Nat):ex=.normal∧CodeOk c (.region id ops draw) vs h .normal vs' h':=by
 unfold Cx.region at hp
 cases draw with
 | false=>
  simp only at hp
  split at hp
  case h_2=>cases hp
  rename_i hT
  exact plain_ok hm hcall hT (fun h=>by cases h) (fun _ i j h=>nblt.1 h) hp hx id
 | true=>
  simp only at hp
  split at hp
  case h_2=>cases hp
  rename_i hT
  simp only [Bool.and_eq_true] at hT
  split at hp
  ·exact plain_ok hm hcall hT.2 (fun _=>⟨_,rfl,hT.1⟩) (fun h=>by cases h) hp hx id
  ·split at hp
   ·exact twin_ok hm hcall hT.2 (fun _=>⟨_,rfl,hT.1⟩) (fun h=>by cases h) hp hx id
   ·cases hp
end Am
namespace Am
open Go
variable {c:Cx} {call:CallF}
theorem appV_get {h h':Heap} {esz n:Nat} {s v:V} {src:List V} (ha:appV h esz s n src=some (v,h')):∀ id,id<h.n→(∀ o l ver e f,s≠.sl id o l ver e f)→h'.get id=h.get id:=by
 intro id hid hs
 have new:∀ o,(h.alloc o).get id=h.get id:=fun o=>by rw [Heap.get_alloc,if_neg (by omega)]
 unfold appV at ha
 split at ha
 ·split at ha <;> first
   | (simp only [Option.some.injEq,Prod.mk.injEq] at ha;obtain ⟨_,rfl⟩:=ha;rfl)
   | cases ha
 ·split at ha
  ·split at ha
   ·simp only [Option.some.injEq,Prod.mk.injEq] at ha;obtain ⟨_,rfl⟩:=ha;exact new _
   ·cases ha
  ·rename_i id' off len ver e full
   have hne:id≠id':=fun e'=>hs off len ver e full (by rw [e'])
   have set:∀ o,(h.set id' o).get id=h.get id:=fun o=>by rw [Heap.get_set,if_neg hne]
   split at ha
   ·split at ha
    ·split at ha
     ·simp only [Option.some.injEq,Prod.mk.injEq] at ha;obtain ⟨_,rfl⟩:=ha;exact new _
     ·split at ha
      ·split at ha <;> (simp only [Option.some.injEq,Prod.mk.injEq] at ha;obtain ⟨_,rfl⟩:=ha;exact set _)
      ·cases ha
    ·cases ha
   ·cases ha
  ·cases ha
def Heap.Wf (h:Heap):Prop:=∀ id,h.n≤id→h.get id=none
theorem Heap.Wf.alloc {h:Heap} (hw:h.Wf) (o:Obj):(h.alloc o).Wf:=fun id hid=>by
 have hid:h.n+1≤id:=hid
 rw [Heap.get_alloc,if_neg (by omega)]
 exact hw id (by omega)
theorem Heap.Wf.set {h:Heap} (hw:h.Wf) {i:Nat} {o':Obj} (hi:h.get i=some o') (o:Obj):(h.set i o).Wf:=fun id hid=>by
 have hid:h.n≤id:=hid
 rw [Heap.get_set]
 split
 ·rename_i e
  subst e
  rw [hw id hid] at hi;cases hi
 ·exact hw id hid
theorem appV_wf {h h':Heap} (hw:h.Wf) {esz n:Nat} {s v:V} {src:List V} (ha:appV h esz s n src=some (v,h')):h'.Wf:=by
 unfold appV at ha
 split at ha
 ·split at ha <;> first
   | (simp only [Option.some.injEq,Prod.mk.injEq] at ha;obtain ⟨_,rfl⟩:=ha;exact hw)
   | cases ha
 ·split at ha
  ·split at ha
   ·simp only [Option.some.injEq,Prod.mk.injEq] at ha;obtain ⟨_,rfl⟩:=ha;exact hw.alloc _
   ·cases ha
  ·split at ha
   ·rename_i hg
    split at ha
    ·split at ha
     ·simp only [Option.some.injEq,Prod.mk.injEq] at ha;obtain ⟨_,rfl⟩:=ha;exact hw.alloc _
     ·split at ha
      ·split at ha <;> (simp only [Option.some.injEq,Prod.mk.injEq] at ha;obtain ⟨_,rfl⟩:=ha;exact hw.set hg _)
      ·cases ha
    ·cases ha
   ·cases ha
  ·cases ha
theorem opv_wf {k:AK} {ls vs:List V} {h h':Heap} {v:V} (hw:h.Wf) (hv:opv k ls vs h=some (v,h')):h'.Wf:=by
 cases hc:k.cl
 ·rw [opv_still (.inl hc) hv];exact hw
 ·rw [opv_still (.inr hc) hv];exact hw
 ·obtain ⟨ob,rfl,_⟩:=opv_a hc hv
  exact hw.alloc _
 ·cases k <;> simp [AK.cl] at hc
  case len q x=>cases q <;> simp at hc
  case store n a x=>
   simp only [opv,o_store] at hv
   split at hv
   ·rename_i A X eA eX
    split at hv
    ·rename_i h1 hwr
     simp only [Option.some.injEq,Prod.mk.injEq] at hv
     obtain ⟨_,rfl⟩:=hv
     unfold wr at hwr
     split at hwr
     ·split at hwr
      ·rename_i hg
       split at hwr
       ·simp only [Option.some.injEq] at hwr;subst hwr;exact hw.set hg _
       ·cases hwr
      ·cases hwr
     ·cases hwr
    ·cases hv
   ·cases hv
  case mput kk m k x=>
   simp only [opv,o_mput] at hv
   split at hv
   ·split at hv
    ·rename_i hg
     split at hv
     ·simp only [Option.some.injEq,Prod.mk.injEq] at hv
      obtain ⟨_,rfl⟩:=hv
      exact hw.set hg _
     ·cases hv
    ·cases hv
   ·cases hv
  case mdel kk m k=>
   simp only [opv,o_mdel] at hv
   split at hv
   ·split at hv
    ·rename_i hg
     split at hv
     ·simp only [Option.some.injEq,Prod.mk.injEq] at hv
      obtain ⟨_,rfl⟩:=hv
      exact hw.set hg _
     ·cases hv
    ·cases hv
   ·cases hv
  case app esz s x=>
   simp only [opv,o_app] at hv
   split at hv
   ·split at hv
    ·exact appV_wf hw hv
    ·cases hv
   ·cases hv
  case appz esz z s x=>
   simp only [opv,o_appz] at hv
   split at hv
   ·split at hv
    ·split at hv
     ·exact appV_wf hw hv
     ·cases hv
    ·cases hv
   ·cases hv
  case copy esz d s=>
   simp only [opv,o_copy] at hv
   split at hv
   ·split at hv
    ·split at hv
     ·simp only [Option.some.injEq,Prod.mk.injEq] at hv
      obtain ⟨_,rfl⟩:=hv
      exact hw
     ·split at hv
      ·rename_i hg
       split at hv
       ·simp only [Option.some.injEq,Prod.mk.injEq] at hv
        obtain ⟨_,rfl⟩:=hv
        exact hw.set hg _
       ·cases hv
      ·cases hv
     ·cases hv
    ·cases hv
   ·cases hv
  all_goals first
   | (simp [opv] at hv)
   | (simp [opv,o_die] at hv)
theorem runOpsT_wf:∀ {os:List AOp} {ls vs:List V} {h:Heap} {ls':List V} {h':Heap} {t:List Nat},h.Wf→runOpsT os ls vs h=some (ls',h',t)→h'.Wf
 | [],ls,vs,h,ls',h',t,hw,e=>by
  simp only [runOpsT,Option.some.injEq,Prod.mk.injEq] at e
  obtain ⟨rfl,rfl,rfl⟩:=e
  exact hw
 | o :: os,ls,vs,h,ls',h',t,hw,e=>by
  simp only [runOpsT] at e
  split at e
  ·cases e
  ·exact runOpsT_wf (os:=os) hw e
  ·split at e
   ·cases e
   ·split at e
    ·rename_i v h1 hv
     split at e
     ·rename_i ls2 h2 t2 hr
      simp only [Option.some.injEq,Prod.mk.injEq] at e
      obtain ⟨rfl,rfl,rfl⟩:=e
      exact runOpsT_wf (os:=os) (opv_wf hw hv) hr
     ·cases e
    ·cases e
theorem xT_wf:∀ (a:AC) {vs:List V} {h:Heap} {vs':List V} {h':Heap} {t:List Nat},h.Wf→xT a vs h=some (vs',h',t)→h'.Wf:=by
 intro a
 induction a with
 | skip=>
  intro vs h vs' h' t hw e
  simp only [xT,Option.some.injEq,Prod.mk.injEq] at e
  obtain ⟨rfl,rfl,rfl⟩:=e
  exact hw
 | reg ops outs=>
  intro vs h vs' h' t hw e
  simp only [xT] at e
  split at e
  ·rename_i ls h1 t1 hr
   split at e
   ·simp only [Option.some.injEq,Prod.mk.injEq] at e
    obtain ⟨rfl,rfl,rfl⟩:=e
    exact runOpsT_wf hw hr
   ·cases e
  ·cases e
 | seq a b iha ihb=>
  intro vs h vs' h' t hw e
  simp only [xT] at e
  split at e
  ·rename_i vs1 h1 t1 e1
   split at e
   ·rename_i vs2 h2 t2 e2
    simp only [Option.some.injEq,Prod.mk.injEq] at e
    obtain ⟨rfl,rfl,rfl⟩:=e
    exact ihb (iha hw e1) e2
   ·cases e
  ·cases e
 | cond o a b iha ihb=>
  intro vs h vs' h' t hw e
  simp only [xT] at e
  split at e
  ·exact iha hw e
  ·exact ihb hw e
  ·cases e
 | _=>intro vs h vs' h' t hw e;simp [xT] at e
theorem opv_eq {k:AK} {ls vs:List V} {t:List Nat} (ht:opT ls vs k=some t) (h:Heap):opc call k ls vs h=opv k ls vs h:=by
 cases k <;> first | rfl | cases ht
theorem opT_ok {k:AK} {ls vs:List V} {h h':Heap} {v:V} {t:List Nat} (hv:opv k ls vs h=some (v,h')) (ht:opT ls vs k=some t):h.n≤h'.n∧∀ id,id<h.n→id∉t→h'.get id=h.get id:=by
 cases hc:k.cl
 ·rw [opv_still (.inl hc) hv];exact ⟨Nat.le_refl _,fun _ _ _=>rfl⟩
 ·rw [opv_still (.inr hc) hv];exact ⟨Nat.le_refl _,fun _ _ _=>rfl⟩
 ·obtain ⟨ob,rfl,_⟩:=opv_a hc hv
  exact ⟨Nat.le_succ _,fun id hid _=>by rw [Heap.get_alloc,if_neg (by omega)]⟩
 ·refine ⟨opv_grow hc hv,fun id hid hn=>?_⟩
  cases k <;> simp [AK.cl] at hc
  case len q x=>cases q <;> simp at hc
  case store n a x=>
   simp only [opv,o_store] at hv
   split at hv
   ·rename_i A X eA eX
    split at hv
    ·rename_i h1 hw
     simp only [Option.some.injEq,Prod.mk.injEq] at hv
     obtain ⟨_,rfl⟩:=hv
     cases A with
     | ptr i o r z=>
      simp only [opT,eA,Option.some.injEq] at ht
      subst ht
      obtain ⟨ob,rfl,_⟩:=wr_inv hw
      rw [Heap.get_set,if_neg (by simpa using hn)]
     | _=>simp [wr] at hw
    ·cases hv
   ·cases hv
  case mput kk m k x=>
   simp only [opv,o_mput] at hv
   split at hv
   ·rename_i i kv xv em ek ex
    simp only [opT,em,Option.some.injEq] at ht
    subst ht
    split at hv
    ·split at hv
     ·simp only [Option.some.injEq,Prod.mk.injEq] at hv
      obtain ⟨_,rfl⟩:=hv
      rw [Heap.get_set,if_neg (by simpa using hn)]
     ·cases hv
    ·cases hv
   ·cases hv
  case mdel kk m k=>
   simp only [opv,o_mdel] at hv
   split at hv
   ·rename_i i kv em ek
    simp only [opT,em,Option.some.injEq] at ht
    subst ht
    split at hv
    ·split at hv
     ·simp only [Option.some.injEq,Prod.mk.injEq] at hv
      obtain ⟨_,rfl⟩:=hv
      rw [Heap.get_set,if_neg (by simpa using hn)]
     ·cases hv
    ·cases hv
   ·cases hv
  case app esz s x=>
   simp only [opv,o_app] at hv
   split at hv
   ·rename_i S X eS eX
    split at hv
    ·refine appV_get hv id hid fun o l ver e f hs=>?_
     subst hs
     simp only [opT,eS,Option.some.injEq] at ht
     subst ht
     simp at hn
    ·cases hv
   ·cases hv
  case appz esz z s x=>
   simp only [opv,o_appz] at hv
   split at hv
   ·rename_i S X eS eX
    split at hv
    ·split at hv
     ·refine appV_get hv id hid fun o l ver e f hs=>?_
      subst hs
      simp only [opT,eS,Option.some.injEq] at ht
      subst ht
      simp at hn
     ·cases hv
    ·cases hv
   ·cases hv
  case copy esz d s=>
   simp only [opv,o_copy] at hv
   split at hv
   ·rename_i D S eD eS
    split at hv
    ·split at hv
     ·simp only [Option.some.injEq,Prod.mk.injEq] at hv
      obtain ⟨_,rfl⟩:=hv
      rfl
     ·rename_i i off len ver e f
      simp only [opT,eD,Option.some.injEq] at ht
      subst ht
      split at hv
      ·split at hv
       ·simp only [Option.some.injEq,Prod.mk.injEq] at hv
        obtain ⟨_,rfl⟩:=hv
        rw [Heap.get_set,if_neg (by simpa using hn)]
       ·cases hv
      ·cases hv
     ·cases hv
    ·cases hv
   ·cases hv
  all_goals first
   | cases ht
   | (simp [opv] at hv)
theorem runOpsT_ok:∀ {os:List AOp} {ls vs:List V} {h:Heap} {ls':List V} {h':Heap} {t:List Nat},runOpsT os ls vs h=some (ls',h',t)→
  runOps call os ls vs h=some (ls',h')∧h.n≤h'.n∧∀ id,id<h.n→id∉t→h'.get id=h.get id
 | [],ls,vs,h,ls',h',t,e=>by
  simp only [runOpsT,Option.some.injEq,Prod.mk.injEq] at e
  obtain ⟨rfl,rfl,rfl⟩:=e
  exact ⟨rfl,Nat.le_refl _,fun _ _ _=>rfl⟩
 | o :: os,ls,vs,h,ls',h',t,e=>by
  simp only [runOpsT] at e
  split at e
  ·cases e
  ·rename_i hw
   obtain ⟨k1,k2,k3⟩:=runOpsT_ok (os:=os) e
   refine ⟨?_,k2,k3⟩
   simp only [runOps,stepO,hw]
   exact k1
  ·rename_i hw
   split at e
   ·cases e
   ·rename_i t1 ht
    split at e
    ·rename_i v h1 hv
     split at e
     ·rename_i ls2 h2 t2 hr
      simp only [Option.some.injEq,Prod.mk.injEq] at e
      obtain ⟨rfl,rfl,rfl⟩:=e
      obtain ⟨k1,k2,k3⟩:=runOpsT_ok (os:=os) hr
      obtain ⟨j1,j2⟩:=opT_ok hv ht
      refine ⟨?_,Nat.le_trans j1 k2,fun id hid hn=>?_⟩
      ·simp only [runOps,stepO,hw,opv_eq ht,hv]
       exact k1
      ·simp only [List.mem_append,not_or] at hn
       rw [k3 id (by omega) hn.2,j2 id hid hn.1]
     ·cases e
    ·cases e
theorem xT_ok (fuel:Nat):∀ (a:AC) {vs:List V} {h:Heap} {vs':List V} {h':Heap} {t:List Nat},xT a vs h=some (vs',h',t)→
  exec call fuel a vs h=some (.normal,vs',h')∧h.n≤h'.n∧∀ id,id<h.n→id∉t→h'.get id=h.get id:=by
 intro a
 induction a with
 | skip=>
  intro vs h vs' h' t e
  simp only [xT,Option.some.injEq,Prod.mk.injEq] at e
  obtain ⟨rfl,rfl,rfl⟩:=e
  exact ⟨rfl,Nat.le_refl _,fun _ _ _=>rfl⟩
 | reg ops outs=>
  intro vs h vs' h' t e
  simp only [xT] at e
  split at e
  ·rename_i ls h1 t1 hr
   split at e
   ·rename_i vs1 ho
    simp only [Option.some.injEq,Prod.mk.injEq] at e
    obtain ⟨rfl,rfl,rfl⟩:=e
    obtain ⟨k1,k2,k3⟩:=runOpsT_ok (call:=call) hr
    refine ⟨?_,k2,k3⟩
    simp only [exec,x_reg,k1,ho]
   ·cases e
  ·cases e
 | seq a b iha ihb=>
  intro vs h vs' h' t e
  simp only [xT] at e
  split at e
  ·rename_i vs1 h1 t1 e1
   split at e
   ·rename_i vs2 h2 t2 e2
    simp only [Option.some.injEq,Prod.mk.injEq] at e
    obtain ⟨rfl,rfl,rfl⟩:=e
    obtain ⟨k1,k2,k3⟩:=iha e1
    obtain ⟨j1,j2,j3⟩:=ihb e2
    refine ⟨?_,Nat.le_trans k2 j2,fun id hid hn=>?_⟩
    ·simp only [exec,x_seq,k1,j1]
    ·simp only [List.mem_append,not_or] at hn
     rw [j3 id (by omega) hn.2,k3 id hid hn.1]
   ·cases e
  ·cases e
 | cond o a b iha ihb=>
  intro vs h vs' h' t e
  simp only [xT] at e
  split at e
  ·rename_i ho
   obtain ⟨k1,k2,k3⟩:=iha e
   exact ⟨by simp only [exec,x_cond,ho,k1],k2,k3⟩
  ·rename_i ho
   obtain ⟨k1,k2,k3⟩:=ihb e
   exact ⟨by simp only [exec,x_cond,ho,k1],k2,k3⟩
  ·cases e
 | _=>intro vs h vs' h' t e;simp [xT] at e
theorem mem_newIds:∀ {n k id:Nat},id∈newIds n k↔n≤id∧id<n+k
 | n,0,id=>by simp only [newIds,List.not_mem_nil,false_iff];omega
 | n,k+1,id=>by
  simp only [newIds,List.mem_cons,mem_newIds (n:=n+1) (k:=k)]
  omega
theorem mergeL_spec {ha hb:Heap} : ∀ {L:List Nat} {h h':Heap},mergeL ha hb L h=some h'→
  h'.n=h.n∧(∀ id,id∉L→h'.get id=h.get id)∧∀ id,id∈L→∃ a b o,ha.get id=some a∧hb.get id=some b∧mergeObj a b=some o∧h'.get id=some o
 | [],h,h',e=>by
  simp only [mergeL,Option.some.injEq] at e;subst e
  exact ⟨rfl,fun _ _=>rfl,fun id h=>by simp at h⟩
 | i :: L,h,h',e=>by
  simp only [mergeL] at e
  split at e
  ·rename_i a b ea eb
   split at e
   ·rename_i o eo
    obtain ⟨k1,k2,k3⟩:=mergeL_spec (L:=L) e
    refine ⟨k1,fun id hid=>?_,fun id hid=>?_⟩
    ·simp only [List.mem_cons,not_or] at hid
     rw [k2 id hid.2,Heap.get_set,if_neg hid.1]
    ·by_cases hL:id∈L
     ·exact k3 id hL
     ·have:id=i:=by simpa [hL] using hid
      subst this
      exact ⟨a,b,o,ea,eb,eo,by rw [k2 id hL,Heap.get_set,if_pos rfl]⟩
   ·cases e
  ·cases e
theorem objR_low {E:Env} {w:World} {cs:List V} {cur low low' ver:Nat} {r:Rec} (hl:low'≤low) (h:ObjR E w (.cells cs cur low) ver r):ObjR E w (.cells cs cur low') ver r:=by
 obtain ⟨rc,t,fr,h0,h1,h2,h3,h4,h5,h6,h7,h8,h9⟩:=h
 exact ⟨rc,t,fr,h0,h1,h2,h3,h4,fun hv=>(h5 hv).imp id (fun h=>Nat.le_trans hl h),h6,h7,fun i v a b e f=>h8 i v a b e (f.imp id fun h=>Nat.lt_of_lt_of_le h hl),h9⟩
theorem objR_junk {E:Env} {w:World} {cs:List V} {cur low ver:Nat} {r:Rec} (h:ObjR E w (.cells cs cur low) ver r):ObjR E w (.cells [] (cur+1) 0) ver r:=by
 obtain ⟨rc,t,fr,h0,h1,h2,h3,h4,h5,h6,h7,h8,h9⟩:=h
 exact ⟨rc,t,fr,h0,h1,h2,by omega,fun hv=>by omega,fun _=>.inr (Nat.zero_le _),h6,h7,fun i v a b e f=>by simp at a,by simp⟩
theorem minN_le_left (a b:Nat):minN a b≤a:=by rw [minN_eq];exact Nat.min_le_left _ _
theorem minN_le_right (a b:Nat):minN a b≤b:=by rw [minN_eq];exact Nat.min_le_right _ _
theorem mergeObj_ok {a b o:Obj} (h:mergeObj a b=some o) {E:Env} {w:World} {ver:Nat} {r:Rec} : (ObjR E w a ver r→ObjR E w o ver r)∧(ObjR E w b ver r→ObjR E w o ver r):=by
 unfold mergeObj at h
 split at h
 ·split at h
  ·rename_i hv
   rw [nbeq] at hv;subst hv
   split at h
   ·rename_i hb
    have:=V.beqL_sound _ _ hb
    subst this
    simp only [Option.some.injEq] at h;subst h
    exact ⟨objR_low (minN_le_left _ _),objR_low (minN_le_right _ _)⟩
   ·simp only [Option.some.injEq] at h;subst h
    exact ⟨objR_junk,objR_junk⟩
  ·cases h
 ·cases h
theorem R.weak {C:Ctx} {E:Env} {h h':Heap} {w:World} (hR:R C E h w) (hn:h'.n=h.n) (hwf:∀ id,h.n≤id→h'.get id=none)
  (ho:∀ id ver r o,E.mu id ver=some r→h.get id=some o→∃ o',h'.get id=some o'∧(ObjR E w o ver r→ObjR E w o' ver r)):R C E h' w:=by
 refine ⟨fun id ver r hm=>by rw [hn];exact hR.dom id ver r hm,fun id ver r hm=>?_,hR.sep,hR.imm,hR.disj,hR.gl,fun id hid=>hwf id (by rw [hn] at hid;exact hid)⟩
 obtain ⟨o,h1,h2⟩:=hR.obj id ver r hm
 obtain ⟨o',h3,h4⟩:=ho id ver r o hm h1
 exact ⟨o',h3,h4 h2⟩
theorem mergeV_vars {slots:List Tmp} {E:Env} {a:Act} : ∀ {va vb:List V},(∀ (s:Nat) (v:V),(mergeV va vb)[s]? = some v→v=.any∨(va[s]? = some v∧vb[s]? = some v))
 | [],vb,s,v,h=>by simp [mergeV] at h
 | x :: va,[],s,v,h=>by simp [mergeV] at h
 | x :: va,y :: vb,0,v,h=>by
  simp only [mergeV,List.getElem?_cons_zero,Option.some.injEq] at h
  split at h
  ·rename_i hb
   have:=V.beq_sound _ _ hb
   subst this;subst h
   exact .inr ⟨rfl,rfl⟩
  ·exact .inl h.symm
 | x :: va,y :: vb,s+1,v,h=>by
  simp only [mergeV,List.getElem?_cons_succ] at h
  simpa using mergeV_vars (slots:=slots) (E:=E) (a:=a) s v h
theorem wpAny_gen {g:Rg} (hE:g.Edges) {ops:Array Oper} (hops:g.l=ops.toList) {Q:Exit→Act→World→Prop} (I:(Nat→Prop)→Act→World→Prop)
  (hdown:∀ S a w,I S a w→∀ i j,S i→g.hang i j=true→S j)
  (hstep:∀ S a w i,I S a w→i<ops.size→¬ S i→(∀ j,g.hang i j=true→S j)→wpOp g.C.P ops Q i (I (With S i)) a w)
  (hend:∀ S a w,I S a w→(∀ i,i<ops.size→S i)→Q .normal a w) :
  ∀ (n:Nat) (listed:Array Bool) (a:Act) (w:World),listed.size=ops.size→unlisted ops.size listed=n→I (fun j=>listed.getD j false=true) a w→wpAny g.C.P .any ops Q n listed a w:=by
 have stop:∀ (listed:Array Bool) (a:Act) (w:World),listed.size=ops.size→I (fun j=>listed.getD j false=true) a w→Region.ready .any ops listed=[]→Q .normal a w:=by
  intro listed a w hs hI hr
  refine hend _ a w hI fun i=>?_
  induction i using Nat.strongRecOn with
  | _ i ih=>
   intro hi
   cases hl:listed.getD i false with
   | true=>rfl
   | false=>
    have:i∈Region.ready .any ops listed:=by
     rw [mem_ready]
     refine ⟨hi,?_,ops[i],by simp [hi],fun e he hb=>?_⟩
     ·have:i<listed.size:=by omega
      simp [Array.getD,this] at hl ⊢
      exact hl
     ·have hlt:=hE.low i ops[i] (by rw [hops];simp [hi]) e he hb
      exact ih e.on hlt (by omega)
    rw [hr] at this
    simp at this
 intro n
 induction n with
 | zero=>
  intro listed a w hs hu hI
  have hr:Region.ready .any ops listed=[]:=by
   cases hr:Region.ready .any ops listed with
   | nil=>rfl
   | cons i l=>
    have hi:i∈Region.ready .any ops listed:=by rw [hr];simp
    obtain ⟨h1,h2,_⟩:=mem_ready.1 hi
    have:=List.countP_eq_zero.1 hu i (List.mem_range.2 h1)
    simp [h2] at this
  exact ⟨hr,stop listed a w hs hI hr⟩
 | succ n ih=>
  intro listed a w hs hu hI
  refine ⟨stop listed a w hs hI,fun i hi=>?_⟩
  obtain ⟨h1,h2,o,h3,h4⟩:=mem_ready.1 hi
  have hlt:i<listed.size:=by omega
  have hS:listed.getD i false=false:=by simp [Array.getD,hlt] at h2 ⊢;exact h2
  refine wpOp_mono ?_ (hstep _ a w i hI h1 (by simp [hS]) (fun j hj=>?_))
  ·intro a' w' hI'
   refine ih _ a' w' (by simpa using hs) ?_ ?_
   ·have hsplit:=countP_split (p:=fun j=>!listed.getD j true) (q:=fun j=>!(listed.setIfInBounds i true).getD j true) (i:=i) (l:=List.range ops.size) List.nodup_range (List.mem_range.2 h1) (by simp [h2]) (by simp [Array.getD,hlt]) (fun j hj=>by
     simp only [Array.getD_eq_getD_getElem?,Array.getElem?_setIfInBounds]
     rw [if_neg (fun e=>hj e.symm)])
    have:unlisted ops.size listed=unlisted ops.size (listed.setIfInBounds i true)+1:=hsplit
    omega
   ·have:With (fun j=>listed.getD j false=true) i=fun j=>(listed.setIfInBounds i true).getD j false=true:=by
     funext j
     simp only [With,eq_iff_iff]
     simp only [Array.getD_eq_getD_getElem?,Array.getElem?_setIfInBounds]
     by_cases e:i=j
     ·subst e;simp [hlt]
     ·simp only [if_neg e]
      constructor
      ·rintro (h | h)
       ·exact h
       ·exact absurd h.symm e
      ·exact .inl
    rw [← this]
    exact hI'
  ·obtain ⟨e,he,hb,hh⟩:=hE.hang i o (by rw [hops];simpa using h3) j hj
   rcases hh with rfl | hh
   ·exact h4 e he hb
   ·exact hdown _ a w hI _ _ (h4 e he hb) hh
end Am
namespace Am
open Go
variable {c:Cx} {call:CallF}
theorem coin_region (hm:c.P.follows .mixedOrders=true) {ops:Array Oper} {s:Nat} (hc:c.coinS ops=some s) (id:Nat) {vs:List V} {h:Heap} {E:Env} {w:World} {a:Act} {N:Nat} {Q:Exit→Act→World→Prop}
  (hN:c.ntmps≤N) (hR:R ⟨c.P,c.glob⟩ E h w) (hV:VarsR c.slots vs E a) (hs:a.tmps.size=N)
  (hQ:∀ (b:Bool) (E':Env) (a':Act) (w':World),R ⟨c.P,c.glob⟩ E' (h.alloc (.cells [] 1 0)) w'→Good h.n E w E' w'→VarsR c.slots (setV vs s (.bool b)) E' a'→a'.tmps.size=N→a'.defers=a.defers→Q .normal a' w') :
  (Code.region id ops true).wp c.P Q a w:=by
 unfold Cx.coinS at hc
 split at hc
 case h_2=>cases hc
 rename_i o0 o1 o2 o3 hops
 split at hc
 case h_2=>cases hc
 rename_i p t d0 d1 d2 d3 g0 g1 g2 g3
 simp only at hc
 split at hc
 case h_2=>cases hc
 rename_i b0 b1 b2 p0 p1 p2 p3
 split at hc
 case h_2=>cases hc
 split at hc
 case h_2=>cases hc
 rename_i s' hB hvp hvt
 simp only [Option.some.injEq] at hc
 subst hc
 simp only [Bool.and_eq_true,Bool.not_eq_true'] at hB
 obtain ⟨⟨⟨hM,hpt⟩,hp⟩,ht⟩:=hB
 have hpt:p≠t:=fun e=>by rw [nbeq.2 e] at hpt;cases hpt
 have hp:p<N:=Nat.lt_of_lt_of_le (nblt.1 hp) hN
 have ht:t<N:=Nat.lt_of_lt_of_le (nblt.1 ht) hN
 obtain rfl:ops = #[o0,o1,o2,o3]:=by cases ops;simp_all
 let g:Rg:=⟨⟨c.P,c.glob⟩,[o0,o1,o2,o3],hangM [0,1,1,7],c.slots,vs,fun _=>.any⟩
 have hE:g.Edges:=edges_ok (g:=g) rfl hM
 -- what an operation's operands are
 have opR:∀ (E':Env) (a':Act) (l:List Operand),VR E' (.ptr h.n 0 0 1) (a'.eval (.tmp p))→
   OpR E' (fun | .tmp q=>(match Nat.beq q p with | true=>some (.loc 0) | false=>none) | .const v=>(ofValue 4 v).map Opd.cst | _=>none) [.ptr h.n 0 0 1] [] a'.eval l:=by
  intro E' a' l hv y _ z v hz hev
  cases y with
  | tmp q=>
   simp only at hz
   split at hz
   ·rename_i hq
    rw [nbeq] at hq;subst hq
    simp only [Option.some.injEq] at hz;subst hz
    simp only [ev,nth,Option.some.injEq] at hev;subst hev
    exact hv
   ·cases hz
  | const x=>
   simp only at hz
   obtain ⟨u,hu,rfl⟩:=Option.map_eq_some_iff.1 hz
   simp only [ev,Option.some.injEq] at hev;subst hev
   exact ofValue_ok hu
  | global _=>cases hz
  | func _=>cases hz
 let I:(Nat→Prop)→Act→World→Prop:=fun S a' w'=>a'.tmps.size=N∧a'.defers=a.defers∧(∀ i j,S i→g.hang i j=true→S j)∧(∀ q,q≠p→q≠t→a'.eval (.tmp q)=a.eval (.tmp q))∧(¬ S 0→w'=w.drew)∧
  (S 0→∃ (b:Bool) (low:Nat) (E':Env),R ⟨c.P,c.glob⟩ E' (h.alloc (.cells [.bool b] 0 low)) w'∧Good h.n E w E' w'∧VR E' (.ptr h.n 0 0 1) (a'.eval (.tmp p)))∧(S 3→∃ b,a'.eval (.tmp t)=.bool b)
 have getn:∀ o,(h.alloc o).get h.n=some o:=fun o=>by rw [Heap.get_alloc,if_pos rfl]
 -- a store
 have store:∀ (S:Nat→Prop) (a':Act) (w':World) (i:Nat) (o:Oper) (b:Bool),i≠0→i≠3→I S a' w'→(#[o0,o1,o2,o3]:Array Oper)[i]? = some o→o.dst=none→o.guard=none→g.hang i 0=true→(∀ j,g.hang i j=true→S j)→
   prepOp c.P (fun | .tmp q=>(match Nat.beq q p with | true=>some (.loc 0) | false=>none) | .const v=>(ofValue 4 v).map Opd.cst | _=>none) o.op=some (.store 1 (.loc 0) (.cst (.bool b)))→wpOp c.P #[o0,o1,o2,o3] Q i (I (With S i)) a' w':=by
  intro S a' w' i o b hi0 hi3 hI ho hd hg h0 hready hk
  obtain ⟨i1,i2,i3,i4,i5,i6,i7⟩:=hI
  obtain ⟨bb,low,E1,r1,g1,v1⟩:=i6 (hready 0 h0)
  refine wpOp_go ho (by simp [Region.wanted,hg]) ?_
  have hv:opv (.store 1 (.loc 0) (.cst (.bool b))) [.ptr h.n 0 0 1] [] (h.alloc (.cells [.bool bb] 0 low))=some (.any,(h.alloc (.cells [.bool bb] 0 low)).set h.n (.cells [.bool b] 0 (minN low 0))):=by
   simp [opv,o_store,ev,nth,wr,getn,V.cells,allOne,V.one,splice,over]
  have hx:=x_all (C:=⟨c.P,c.glob⟩) (o:=o) (ρ:=a'.eval) (opR E1 a' _ v1) hk rfl hv r1
  refine wp_xok hx fun E2 w2 x r2 g2 _=>?_
  have hput:a'.put o.dst x=a':=by rw [hd];rfl
  rw [hput]
  have r3:R ⟨c.P,c.glob⟩ E2 (h.alloc (.cells [.bool b] 0 (minN low 0))) w2:=by
   refine r2.heap (by simp) (fun id ver r _=>?_) (fun id hid=>?_)
   ·rw [Heap.get_set,Heap.get_alloc,Heap.get_alloc]
    split <;> rfl
   ·have:=r2.wf id (by simpa using hid)
    rw [Heap.get_set,Heap.get_alloc] at this
    rw [Heap.get_alloc]
    split
    ·rename_i e;rw [if_pos e] at this;cases this
    ·rename_i e;rw [if_neg e,if_neg e] at this;exact this
  refine ⟨i1,i2,?_,i4,fun hn=>absurd (.inl (hready 0 h0)) hn,fun _=>⟨b,_,E2,r3,g1.trans g2 (by simp),v1.mono g2.le⟩,?_⟩
  ·rintro i' j (hs' | rfl) hh
   ·exact .inl (i3 _ _ hs' hh)
   ·exact .inl (hready _ hh)
  ·rintro (h3 | h3)
   ·exact i7 h3
   ·exact absurd h3.symm hi3
 refine wp_region_any hm ?_
 refine wpAny_gen (g:=g) hE rfl I (fun S a' w' hI=>hI.2.2.1) ?_ ?_ 4 _ a _ (by simp) ?_ ?_
 ·intro S a' w' i hI hi hni hready
  have hi':i=0∨i=1∨i=2∨i=3:=by simp at hi;omega
  rcases hi' with rfl | rfl | rfl | rfl
  ·obtain ⟨i1,i2,i3,i4,i5,i6,i7⟩:=hI
   obtain rfl:=i5 hni
   refine wpOp_go (o:=o0) rfl (by simp [Region.wanted,g0]) ?_
   have hv:opv (.alloc [.bool b0]) [] [] h=some (.ptr h.n 0 0 1,h.alloc (.cells [.bool b0] 0 0)):=rfl
   obtain ⟨obj,f,e1,e2,hA⟩:=a_all (C:=⟨c.P,c.glob⟩) (E:=E) (o:=o0) (ρ:=a'.eval) (ls:=[]) (vs:=[]) (by
    intro y _ z v hz hev
    cases y with
    | tmp q=>
     simp only at hz
     split at hz
     ·simp only [Option.some.injEq] at hz;subst hz
      simp [ev,nth] at hev
     ·cases hz
    | const x=>
     simp only at hz
     obtain ⟨u,hu,rfl⟩:=Option.map_eq_some_iff.1 hz
     simp only [ev,Option.some.injEq] at hev;subst hev
     exact ofValue_ok hu
    | global _=>cases hz
    | func _=>cases hz) p0 rfl hv
   have hobj:obj=.cells [.bool b0] 0 0:=by
    have:=congrArg (fun H:Heap=>H.get h.n) e2
    simp only [getn,Option.some.injEq] at this
    exact this.symm
   subst hobj
   obtain ⟨x,w1,blk,ext,sz,q1,q2,q3,q4,q5,q6,q7⟩:=hA w.drew
   obtain ⟨k1,k2⟩:=hR.drew.make (w1:=w1.alloc blk) (blk:=blk) ⟨by rw [World.alloc,q2],q3,q4,q5⟩ q7
   refine wp_value q1 ?_
   have hle:E.Le (E.add h.n 0 ⟨w.drew.heap.size,0,ext,sz⟩):=k2.le
   have hx:VR (E.add h.n 0 ⟨w.drew.heap.size,0,ext,sz⟩) (.ptr h.n 0 0 1) x:=by rw [e1];exact q6 _ _ hle Env.add_at
   have heq:(a'.put o0.dst x).eval (.tmp p)=x:=by rw [d0,Act.put_get (by rw [i1];exact hp)]
   refine ⟨?_,?_,?_,?_,fun hn=>absurd (.inr rfl) hn,fun _=>⟨b0,0,_,k1,⟨k2.le,k2.frame,k2.new,k2.size,k2.os,k2.tape,k2.output,k2.imm⟩,by rw [heq];exact hx⟩,?_⟩
   ·rw [← i1,d0];simp [Act.put]
   ·rw [← i2,d0];rfl
   ·rintro i' j (hs' | rfl) hh
    ·exact .inl (i3 _ _ hs' hh)
    ·exact .inl (hready _ hh)
   ·intro q hqp hqt
    rw [d0,Act.eval_put (fun d hd e=>by cases hd;cases e;exact hqp rfl)]
    exact i4 q hqp hqt
   ·rintro (h3 | h3)
    ·exact absurd (i3 3 0 h3 rfl) hni
    ·cases h3
  ·exact store S a' w' 1 o1 b1 (by decide) (by decide) hI rfl d1 g1 rfl hready p1
  ·exact store S a' w' 2 o2 b2 (by decide) (by decide) hI rfl d2 g2 rfl hready p2
  ·obtain ⟨i1,i2,i3,i4,i5,i6,i7⟩:=hI
   have s0:S 0:=hready 0 rfl
   obtain ⟨bb,low,E1,r1,g1',v1⟩:=i6 s0
   refine wpOp_go (o:=o3) rfl (by simp [Region.wanted,g3]) ?_
   have hv:opv (.load false 1 (.loc 0)) [.ptr h.n 0 0 1] [] (h.alloc (.cells [.bool bb] 0 low))=some (.bool bb,h.alloc (.cells [.bool bb] 0 low)):=by
    simp [opv,o_load,ev,nth,rd,getn,good,ldC,keep]
   obtain ⟨_,r,q1,q2⟩:=l_all (C:=⟨c.P,c.glob⟩) (o:=o3) (ρ:=a'.eval) (opR E1 a' _ v1) p3 rfl hv r1
   have hr:=q2.bool_inv
   subst hr
   refine wp_value q1 ?_
   have ept:(a'.put o3.dst (.bool bb)).eval (.tmp p)=a'.eval (.tmp p):=by
    rw [d3];exact Act.eval_put (fun d hd e=>by cases hd;cases e;exact hpt rfl)
   refine ⟨?_,?_,?_,?_,fun hn=>absurd (.inl s0) hn,fun _=>⟨bb,low,E1,r1,g1',by rw [ept];exact v1⟩,fun _=>⟨bb,by rw [d3,Act.put_get (by rw [i1];exact ht)]⟩⟩
   ·rw [← i1,d3];simp [Act.put]
   ·rw [← i2,d3];rfl
   ·rintro i' j (hs' | rfl) hh
    ·exact .inl (i3 _ _ hs' hh)
    ·exact .inl (hready _ hh)
   ·intro q hqp hqt
    rw [d3,Act.eval_put (fun d hd e=>by cases hd;cases e;exact hqt rfl)]
    exact i4 q hqp hqt
 ·rintro S a' w' ⟨i1,i2,i3,i4,i5,i6,i7⟩ hall
  obtain ⟨bb,low,E1,r1,g1',v1⟩:=i6 (hall 0 (by simp))
  obtain ⟨b,hb⟩:=i7 (hall 3 (by simp))
  refine hQ b E1 a' w' (r1.weak rfl (fun id hid=>?_) (fun id ver r o hmu ho=>?_)) g1' ?_ i1 i2
  ·have hid:h.n+1≤id:=hid
   rw [Heap.get_alloc,if_neg (by omega)]
   have:=r1.wf id (by simpa using hid)
   rwa [Heap.get_alloc,if_neg (by omega)] at this
  ·rw [Heap.get_alloc] at ho ⊢
   split
   ·rename_i e
    rw [if_pos e] at ho
    simp only [Option.some.injEq] at ho;subst ho
    exact ⟨_,rfl,objR_junk⟩
   ·rename_i e
    rw [if_neg e] at ho
    exact ⟨o,ho,fun h=>h⟩
  ·intro t' s1 v hs1 hv
   rw [get_setV] at hv
   split at hv
   ·rename_i e
    obtain ⟨rfl,_⟩:=e
    simp only [Option.some.injEq] at hv;subst hv
    have e1:=idx_some hs1
    have e2:=idx_some hvt
    rw [e1] at e2
    simp only [Option.some.injEq] at e2;subst e2
    rw [hb];exact .bool b
   ·rename_i e
    have htt:t'≠t:=by
     rintro rfl
     have hvt:s1=s':=Option.some.inj (hs1.symm.trans hvt)
     subst hvt
     have:vs.length≤s1:=by
      rcases Nat.lt_or_ge s1 vs.length with h | h
      ·exact absurd ⟨rfl,h⟩ e
      ·exact h
     rw [List.getElem?_eq_none this] at hv;cases hv
    have htp:t'≠p:=by
     rintro rfl
     have:c.varOf t'=some s1:=hs1
     rw [this] at hvp;cases hvp
    rw [i4 t' htp htt]
    exact (hV t' s1 v hs1 hv).mono g1'.le
 ·unfold unlisted
  rw [List.countP_eq_length.2]
  ·simp
  ·intro i hi
   have:=List.mem_range.1 hi
   simp at this
   simp [Array.getD,this]
 ·have hS:(fun j:Nat=>(Array.replicate (#[o0,o1,o2,o3]:Array Oper).size false).getD j false=true)=fun _=>False:=by
   funext j
   simp only [Array.getD_eq_getD_getElem?,Array.getElem?_replicate,eq_iff_iff,iff_false]
   split <;> simp
  rw [hS]
  exact ⟨hs,rfl,fun _ _ h=>h.elim,fun _ _ _=>rfl,fun _=>rfl,fun h=>h.elim,fun h=>h.elim⟩
theorem coin_ok (hm:c.P.follows .mixedOrders=true) {ops:Array Oper} {s:Nat} (hc:c.coinS ops=some s) (id:Nat) {b:Code} {ab:AC} {fuel:Nat} {vs vs':List V} {h h':Heap} {ex:Ex}
  (hb:∀ {vs:List V} {h:Heap} {ex:Ex} {vs':List V} {h':Heap},exec call fuel ab vs h=some (ex,vs',h')→CodeOk c b vs h ex vs' h')
  (hx:x_coin s ab vs h=some (ex,vs',h')):CodeOk c (.seq (.region id ops true) b) vs h ex vs' h':=by
 unfold x_coin at hx
 split at hx
 case h_2=>cases hx
 rename_i va ha ta vb hb' tb ea eb
 split at hx
 case h_2=>cases hx
 rename_i hn
 rw [nbeq] at hn
 split at hx
 case h_2=>cases hx
 rename_i h1 hm'
 simp only [Option.some.injEq,Prod.mk.injEq] at hx
 obtain ⟨rfl,rfl,rfl⟩:=hx
 obtain ⟨m1,m2,m3⟩:=mergeL_spec hm'
 obtain ⟨a1,a2,a3⟩:=xT_ok (call:=call) fuel ab ea
 obtain ⟨b1,b2,b3⟩:=xT_ok (call:=call) fuel ab eb
 have hna:h.n+1≤ha.n:=a2
 intro E w act N Q hN hR hV hs hQ
 have hw1:(h.alloc (.cells [] 1 0)).Wf:=Heap.Wf.alloc hR.wf _
 have wa:=xT_wf ab hw1 ea
 have wb:=xT_wf ab hw1 eb
 have wf':∀ id,ha.n≤id→h1.get id=none:=by
  intro id hid
  by_cases hL:id∈newIds (h.n+1) (ha.n - (h.n+1))++(ta++tb)
  ·obtain ⟨x,y,o,e1,_⟩:=m3 id hL
   rw [wa id hid] at e1;cases e1
  ·rw [m2 id hL];exact wa id hid
 refine wp_seq (coin_region hm hc id hN hR hV hs fun bb E1 x1 w1 r1 g1 v1 s1 d1=>?_)
 have vars:∀ {E2:Env} {x2:Act},(VarsR c.slots va E2 x2∨VarsR c.slots vb E2 x2)→VarsR c.slots (mergeV va vb) E2 x2:=by
  intro E2 x2 hv t s v ht hsv
  rcases mergeV_vars (slots:=c.slots) (E:=E2) (a:=x2) s v hsv with rfl | ⟨h1,h2⟩
  ·exact .any _
  ·rcases hv with hv | hv
   ·exact hv t s v ht h1
   ·exact hv t s v ht h2
 cases bb with
 | true=>
  refine (hb a1) E1 w1 x1 N Q hN r1 v1 s1 fun E2 x2 w2 r2 g2 v2 s2 d2=>hQ E2 x2 w2 (r2.weak m1 wf' fun i ver r o hmu ho=>?_) (g1.trans g2 (Nat.le_succ _)) (vars (.inl v2)) s2 (d2.trans d1)
  by_cases hL:i∈newIds (h.n+1) (ha.n - (h.n+1))++(ta++tb)
  ·obtain ⟨x,y,o',e1,e2,e3,e4⟩:=m3 i hL
   rw [ho] at e1;cases e1
   exact ⟨o',e4,(mergeObj_ok e3).1⟩
  ·exact ⟨o,by rw [m2 i hL];exact ho,fun h=>h⟩
 | false=>
  refine (hb b1) E1 w1 x1 N Q hN r1 v1 s1 fun E2 x2 w2 r2 g2 v2 s2 d2=>hQ E2 x2 w2 (r2.weak (m1.trans hn) (fun i hi=>wf' i (by omega)) fun i ver r o hmu ho=>?_) (g1.trans g2 (Nat.le_succ _)) (vars (.inr v2)) s2 (d2.trans d1)
  by_cases hL:i∈newIds (h.n+1) (ha.n - (h.n+1))++(ta++tb)
  ·obtain ⟨x,y,o',e1,e2,e3,e4⟩:=m3 i hL
   rw [ho] at e2;cases e2
   exact ⟨o',e4,(mergeObj_ok e3).2⟩
  ·refine ⟨o,?_,fun h=>h⟩
   have hil:i<hb'.n:=r2.dom _ _ _ hmu
   simp only [List.mem_append,not_or,mem_newIds] at hL
   have hlt:i<(h.alloc (.cells [] 1 0)).n:=by
    show i<h.n+1
    have:=hL.1
    omega
   rw [m2 i (by simp only [List.mem_append,not_or,mem_newIds];exact hL),a3 i hlt hL.2.1,← b3 i hlt hL.2.2]
   exact ho
end Am
namespace Am
open Go
variable {c:Cx} {call:CallF}
def Grows (call:CallF):Prop:=∀ f args H v H',call f args H=some (v,H')→H.n≤H'.n
theorem stepO_grow (hg:Grows call) {o:AOp} {ls vs:List V} {H H':Heap} {v:V} (h:stepO call o ls vs H=some (v,H')):H.n≤H'.n:=by
 rcases stepO_cases h with ⟨_,_,rfl⟩ | ⟨_,h⟩
 ·exact Nat.le_refl _
 ·rcases opc_x (call:=call) (k:=o.k) with ⟨f,l,e⟩ | ⟨f,l,e⟩ | e
  ·rw [e] at h
   simp only [opc,o_call] at h
   split at h
   ·exact hg _ _ _ _ _ h
   ·cases h
  ·rw [e] at h
   simp only [opc,o_callv] at h
   split at h
   ·exact hg _ _ _ _ _ h
   ·cases h
  ·rw [e] at h
   cases hc:o.k.cl
   ·rw [opv_still (.inl hc) h];exact Nat.le_refl _
   ·rw [opv_still (.inr hc) h];exact Nat.le_refl _
   ·obtain ⟨ob,rfl,_⟩:=opv_a hc h;exact Nat.le_succ _
   ·exact opv_grow hc h
theorem runOps_grow (hg:Grows call) {vs:List V} : ∀ {ops:List AOp} {ls:List V} {H:Heap} {lsF:List V} {HF:Heap},runOps call ops ls vs H=some (lsF,HF)→H.n≤HF.n
 | [],ls,H,lsF,HF,h=>by simp only [runOps,Option.some.injEq,Prod.mk.injEq] at h;rw [h.2];exact Nat.le_refl _
 | o :: ops,ls,H,lsF,HF,h=>by
  simp only [runOps] at h
  split at h
  ·rename_i hs
   exact Nat.le_trans (stepO_grow hg hs) (runOps_grow hg h)
  ·cases h
theorem opv_any_grow {k:AK} {ls vs:List V} {H H':Heap} {v:V} (h:opv k ls vs H=some (v,H')):H.n≤H'.n:=by
 cases hc:k.cl
 ·rw [opv_still (.inl hc) h];exact Nat.le_refl _
 ·rw [opv_still (.inr hc) h];exact Nat.le_refl _
 ·obtain ⟨ob,rfl,_⟩:=opv_a hc h;exact Nat.le_succ _
 ·exact opv_grow hc h
theorem iter_grow {f:List V→Heap→Out} (hf:∀ vs h ex vs' h',f vs h=some (ex,vs',h')→h.n≤h'.n):∀ (n:Nat) {vs:List V} {h:Heap} {ex:Ex} {vs':List V} {h':Heap},iter f n vs h=some (ex,vs',h')→h.n≤h'.n
 | 0,vs,h,ex,vs',h',hi=>by cases hi
 | n+1,vs,h,ex,vs',h',hi=>by
  simp only [iter] at hi
  split at hi
  ·rename_i e;exact Nat.le_trans (hf _ _ _ _ _ e) (iter_grow hf n hi)
  ·rename_i e;simp only [Option.some.injEq,Prod.mk.injEq] at hi;obtain ⟨_,_,rfl⟩:=hi;exact hf _ _ _ _ _ e
  ·rename_i e;simp only [Option.some.injEq,Prod.mk.injEq] at hi;obtain ⟨_,_,rfl⟩:=hi;exact hf _ _ _ _ _ e
  ·cases hi
theorem exec_grow (hg:Grows call) (fuel:Nat):∀ (ac:AC) {vs:List V} {h:Heap} {ex:Ex} {vs':List V} {h':Heap},exec call fuel ac vs h=some (ex,vs',h')→h.n≤h'.n:=by
 intro ac
 induction ac with
 | skip=>intro vs h ex vs' h' hx;simp only [exec,Option.some.injEq,Prod.mk.injEq] at hx;obtain ⟨_,_,rfl⟩:=hx;exact Nat.le_refl _
 | reg ops outs=>
  intro vs h ex vs' h' hx
  simp only [exec,x_reg] at hx
  split at hx
  ·rename_i hr
   split at hx
   ·simp only [Option.some.injEq,Prod.mk.injEq] at hx;obtain ⟨_,_,rfl⟩:=hx;exact runOps_grow hg hr
   ·cases hx
  ·cases hx
 | reg2 ops s1 s2 outs=>
  intro vs h ex vs' h' hx
  simp only [exec,x_reg2] at hx
  split at hx
  ·rename_i hr
   split at hx
   ·split at hx
    ·cases hx
    ·split at hx
     ·rename_i h1
      split at hx
      ·rename_i h2
       split at hx
       ·simp only [Option.some.injEq,Prod.mk.injEq] at hx
        obtain ⟨_,_,rfl⟩:=hx
        exact Nat.le_trans (runOps_grow hg hr) (Nat.le_trans (opv_any_grow h1) (opv_any_grow h2))
       ·cases hx
      ·cases hx
     ·cases hx
   ·cases hx
  ·cases hx
 | seq a b iha ihb=>
  intro vs h ex vs' h' hx
  simp only [exec,x_seq] at hx
  split at hx
  ·rename_i e;exact Nat.le_trans (iha e) (ihb hx)
  ·rename_i e;simp only [Option.some.injEq,Prod.mk.injEq] at hx;obtain ⟨_,_,rfl⟩:=hx;exact iha e
  ·rename_i e;simp only [Option.some.injEq,Prod.mk.injEq] at hx;obtain ⟨_,_,rfl⟩:=hx;exact iha e
  ·cases hx
 | cond o a b iha ihb=>
  intro vs h ex vs' h' hx
  simp only [exec,x_cond] at hx
  split at hx
  ·exact iha hx
  ·exact ihb hx
  ·cases hx
 | coin s a _=>
  intro vs h ex vs' h' hx
  simp only [exec,x_coin] at hx
  split at hx
  ·rename_i va ha ta vb hb tb ea eb
   split at hx
   ·split at hx
    ·rename_i h1 hm'
     simp only [Option.some.injEq,Prod.mk.injEq] at hx
     obtain ⟨_,_,rfl⟩:=hx
     obtain ⟨m1,_,_⟩:=mergeL_spec hm'
     obtain ⟨_,a2,_⟩:=xT_ok (call:=call) fuel a ea
     have a2:h.n+1≤ha.n:=a2
     omega
    ·cases hx
   ·cases hx
  ·cases hx
 | block id b ih=>
  intro vs h ex vs' h' hx
  simp only [exec,x_block] at hx
  split at hx
  ·rename_i e
   split at hx
   ·simp only [Option.some.injEq,Prod.mk.injEq] at hx;obtain ⟨_,_,rfl⟩:=hx;exact ih e
   ·simp only [Option.some.injEq,Prod.mk.injEq] at hx;obtain ⟨_,_,rfl⟩:=hx;exact ih e
  ·exact ih hx
 | loop b ih=>
  intro vs h ex vs' h' hx
  simp only [exec] at hx
  exact iter_grow (fun _ _ _ _ _=>ih) fuel hx
 | exit id=>intro vs h ex vs' h' hx;simp only [exec,Option.some.injEq,Prod.mk.injEq] at hx;obtain ⟨_,_,rfl⟩:=hx;exact Nat.le_refl _
 | ret=>intro vs h ex vs' h' hx;simp only [exec,Option.some.injEq,Prod.mk.injEq] at hx;obtain ⟨_,_,rfl⟩:=hx;exact Nat.le_refl _
 | stuck=>intro vs h ex vs' h' hx;cases hx
theorem CallOk.grows {C:Ctx} (h:CallOk C call):Grows call:=fun f args H v H' e=>(h f args H v H' e).2.1
theorem seq_ok {a b:Code} {vs vs1 vs':List V} {h h1 h':Heap} {ex:Ex} (ha:CodeOk c a vs h .normal vs1 h1) (hb:CodeOk c b vs1 h1 ex vs' h') (hn:h.n≤h1.n):CodeOk c (.seq a b) vs h ex vs' h':=by
 intro E w act N Q hN hR hV hs hQ
 refine wp_seq (ha E w act N _ hN hR hV hs fun E1 a1 w1 r1 g1 v1 s1 d1=>?_)
 exact hb E1 w1 a1 N Q hN r1 v1 s1 fun E2 a2 w2 r2 g2 v2 s2 d2=>hQ E2 a2 w2 r2 (g1.trans g2 hn) v2 s2 (d2.trans d1)
theorem seq_out {a b:Code} {vs vs':List V} {h h':Heap} {ex:Ex} (ha:CodeOk c a vs h ex vs' h') (hne:ex≠.normal):CodeOk c (.seq a b) vs h ex vs' h':=by
 intro E w act N Q hN hR hV hs hQ
 refine wp_seq (ha E w act N _ hN hR hV hs fun E1 a1 w1 r1 g1 v1 s1 d1=>?_)
 have:=hQ E1 a1 w1 r1 g1 v1 s1 d1
 cases ex with
 | normal=>exact absurd rfl hne
 | exit i=>exact this
 | ret=>exact this
theorem loop_ok {b:Code} {f:List V→Heap→Out} (hf:∀ vs h ex vs' h',f vs h=some (ex,vs',h')→CodeOk c b vs h ex vs' h'∧h.n≤h'.n) :
  ∀ (n:Nat) {vs:List V} {h:Heap} {ex:Ex} {vs':List V} {h':Heap},iter f n vs h=some (ex,vs',h')→∀ (E:Env) (w:World) (a:Act) (N:Nat) (Q:Exit→Act→World→Prop),c.ntmps≤N→R ⟨c.P,c.glob⟩ E h w→VarsR c.slots vs E a→a.tmps.size=N→
  (∀ E' a' w',R ⟨c.P,c.glob⟩ E' h' w'→Good h.n E w E' w'→VarsR c.slots vs' E' a'→a'.tmps.size=N→a'.defers=a.defers→Q (match ex with | .normal=>.normal | .exit i=>.exit i | .ret=>.ret) a' w')→Code.rounds c.P b Q n a w
 | 0,vs,h,ex,vs',h',hi=>by cases hi
 | n+1,vs,h,ex,vs',h',hi=>by
  intro E w a N Q hN hR hV hs hQ
  rw [rounds_succ]
  simp only [iter] at hi
  split at hi
  ·rename_i vs1 h1 e
   obtain ⟨hb,hn⟩:=hf _ _ _ _ _ e
   refine hb E w a N _ hN hR hV hs fun E1 a1 w1 r1 g1 v1 s1 d1=>?_
   exact loop_ok hf n hi E1 w1 a1 N Q hN r1 v1 s1 fun E2 a2 w2 r2 g2 v2 s2 d2=>hQ E2 a2 w2 r2 (g1.trans g2 hn) v2 s2 (d2.trans d1)
  ·rename_i i vs1 h1 e
   simp only [Option.some.injEq,Prod.mk.injEq] at hi
   obtain ⟨rfl,rfl,rfl⟩:=hi
   obtain ⟨hb,hn⟩:=hf _ _ _ _ _ e
   exact hb E w a N _ hN hR hV hs fun E1 a1 w1 r1 g1 v1 s1 d1=>hQ E1 a1 w1 r1 g1 v1 s1 d1
  ·rename_i vs1 h1 e
   simp only [Option.some.injEq,Prod.mk.injEq] at hi
   obtain ⟨rfl,rfl,rfl⟩:=hi
   obtain ⟨hb,hn⟩:=hf _ _ _ _ _ e
   exact hb E w a N _ hN hR hV hs fun E1 a1 w1 r1 g1 v1 s1 d1=>hQ E1 a1 w1 r1 g1 v1 s1 d1
  ·cases hi
theorem code_ok (hm:c.P.follows .mixedOrders=true) (hcall:CallOk ⟨c.P,c.glob⟩ call) (fuel:Nat):∀ (code:Code) {ac:AC},c.code code=some ac→∀ {vs:List V} {h:Heap} {ex:Ex} {vs':List V} {h':Heap},exec call fuel ac vs h=some (ex,vs',h')→CodeOk c code vs h ex vs' h':=by
 intro code
 induction code with
 | skip=>
  intro ac hc vs h ex vs' h' hx
  simp only [Cx.code,Option.some.injEq] at hc;subst hc
  simp only [exec,Option.some.injEq,Prod.mk.injEq] at hx
  obtain ⟨rfl,rfl,rfl⟩:=hx
  exact fun E w a N Q hN hR hV hs hQ=>wp_skip (hQ E a w hR (.refl _ _ _) hV hs rfl)
 | region id ops draw=>
  intro ac hc vs h ex vs' h' hx
  simp only [Cx.code,Option.some.injEq] at hc
  cases hr:c.region ops draw with
  | none=>rw [hr] at hc;subst hc;cases hx
  | some ac'=>
   rw [hr] at hc
   simp only [Option.getD_some] at hc
   subst hc
   obtain ⟨rfl,h1⟩:=region_ok hm hcall hr hx id
   exact h1
 | seq a b iha ihb=>
  intro ac hc vs h ex vs' h' hx
  simp only [Cx.code] at hc
  split at hc
  ·rename_i s hco
   obtain ⟨ab,eb,rfl⟩:=Option.map_eq_some_iff.1 hc
   unfold Cx.coinOf at hco
   split at hco
   ·rename_i id ops
    split at hco
    ·cases hco
    ·exact coin_ok (call:=call) (fuel:=fuel) hm hco id (fun e=>ihb eb e) hx
   ·cases hco
  split at hc
  ·rename_i aa ab ea eb
   simp only [Option.some.injEq] at hc;subst hc
   simp only [exec,x_seq] at hx
   split at hx
   ·rename_i e;exact seq_ok (iha ea e) (ihb eb hx) (exec_grow hcall.grows fuel _ e)
   ·rename_i e;simp only [Option.some.injEq,Prod.mk.injEq] at hx;obtain ⟨rfl,rfl,rfl⟩:=hx;exact seq_out (iha ea e) (by simp)
   ·rename_i e;simp only [Option.some.injEq,Prod.mk.injEq] at hx;obtain ⟨rfl,rfl,rfl⟩:=hx;exact seq_out (iha ea e) (by simp)
   ·cases hx
  ·cases hc
 | cond o a b iha ihb=>
  intro ac hc vs h ex vs' h' hx
  simp only [Cx.code] at hc
  split at hc
  ·rename_i oo aa ab eo ea eb
   simp only [Option.some.injEq] at hc;subst hc
   have hcond:∀ {bb:Bool} {E:Env} {act:Act},VarsR c.slots vs E act→ev [] vs oo=some (.bool bb)→act.eval o=.bool bb:=by
    intro bb E act hV he
    cases o with
    | tmp t=>
     simp only at eo
     obtain ⟨s,hs,rfl⟩:=Option.map_eq_some_iff.1 eo
     simp only [ev,nth_eq] at he
     exact (hV t s _ hs he).bool_inv
    | const x=>
     simp only at eo
     obtain ⟨u,hu,rfl⟩:=Option.map_eq_some_iff.1 eo
     simp only [ev,Option.some.injEq] at he;subst he
     exact (ofValue_ok (E:=E) hu).bool_inv
    | global _=>cases eo
    | func _=>cases eo
   simp only [exec,x_cond] at hx
   split at hx
   ·rename_i e
    exact fun E w act N Q hN hR hV hs hQ=>wp_cond_true (hcond hV e) (iha ea hx E w act N Q hN hR hV hs hQ)
   ·rename_i e
    exact fun E w act N Q hN hR hV hs hQ=>wp_cond_false (hcond hV e) (ihb eb hx E w act N Q hN hR hV hs hQ)
   ·cases hx
  ·cases hc
 | block id b ih=>
  intro ac hc vs h ex vs' h' hx
  simp only [Cx.code] at hc
  obtain ⟨ab,eb,rfl⟩:=Option.map_eq_some_iff.1 hc
  simp only [exec,x_block] at hx
  split at hx
  ·rename_i i vs1 h1 e
   split at hx
   ·rename_i hb
    simp only [Option.some.injEq,Prod.mk.injEq] at hx
    obtain ⟨rfl,rfl,rfl⟩:=hx
    rw [nbeq] at hb;subst hb
    exact fun E w act N Q hN hR hV hs hQ=>wp_block (ih eb e E w act N _ hN hR hV hs fun E1 a1 w1 r1 g1 v1 s1 d1=>by
     simp only [Exit.inBlock,if_pos];exact hQ E1 a1 w1 r1 g1 v1 s1 d1)
   ·rename_i hb
    simp only [Option.some.injEq,Prod.mk.injEq] at hx
    obtain ⟨rfl,rfl,rfl⟩:=hx
    have hne:i≠id:=fun e=>by rw [nbeq.2 e] at hb;cases hb
    exact fun E w act N Q hN hR hV hs hQ=>wp_block (ih eb e E w act N _ hN hR hV hs fun E1 a1 w1 r1 g1 v1 s1 d1=>by
     simp only [Exit.inBlock,hne,if_false];exact hQ E1 a1 w1 r1 g1 v1 s1 d1)
  ·rename_i hno
   refine fun E w act N Q hN hR hV hs hQ=>wp_block (ih eb hx E w act N _ hN hR hV hs fun E1 a1 w1 r1 g1 v1 s1 d1=>?_)
   have:=hQ E1 a1 w1 r1 g1 v1 s1 d1
   cases ex with
   | normal=>exact this
   | exit i=>exact (hno i vs' h' hx).elim
   | ret=>exact this
 | loop b ih=>
  intro ac hc vs h ex vs' h' hx
  simp only [Cx.code] at hc
  obtain ⟨ab,eb,rfl⟩:=Option.map_eq_some_iff.1 hc
  simp only [exec] at hx
  exact fun E w act N Q hN hR hV hs hQ=>wp_loop_rounds fuel (loop_ok (fun vs h ex vs' h' e=>⟨ih eb e,exec_grow hcall.grows fuel _ e⟩) fuel hx E w act N Q hN hR hV hs hQ)
 | exit id=>
  intro ac hc vs h ex vs' h' hx
  simp only [Cx.code,Option.some.injEq] at hc;subst hc
  simp only [exec,Option.some.injEq,Prod.mk.injEq] at hx
  obtain ⟨rfl,rfl,rfl⟩:=hx
  exact fun E w a N Q hN hR hV hs hQ=>wp_exit (hQ E a w hR (.refl _ _ _) hV hs rfl)
 | ret=>
  intro ac hc vs h ex vs' h' hx
  simp only [Cx.code,Option.some.injEq] at hc;subst hc
  simp only [exec,Option.some.injEq,Prod.mk.injEq] at hx
  obtain ⟨rfl,rfl,rfl⟩:=hx
  exact fun E w a N Q hN hR hV hs hQ=>wp_ret (hQ E a w hR (.refl _ _ _) hV hs rfl)
 | _=>
  intro ac hc vs h ex vs' h' hx
  simp only [Cx.code,Option.some.injEq] at hc;subst hc
  cases hx
end Am
namespace Am
open Go
variable {c:Cx} {call:CallF}
theorem get_initV:∀ (slots:List Nat) (args:List V) (s:Nat),(initV slots args)[s]? = slots[s]?.map fun t=>(args[t]?).getD .any
 | [],args,s=>by simp [initV]
 | t :: r,args,0=>by
  simp only [initV,nth_eq,List.getElem?_cons_zero,Option.map_some,Option.some.injEq]
  cases args[t]? <;> rfl
 | t :: r,args,s+1=>by simpa [initV] using get_initV r args s
def resOf (tmps:Array Value):ResultVar→Sem Value
 | .tmp t=>pure (tmps.getD t undef)
 | .cell a t=>do loadVar t (← asAddr (tmps.getD a undef))
theorem res_ok {E:Env} {h:Heap} {w:World} {a:Act} {vs:List V} (hR:R ⟨c.P,c.glob⟩ E h w) (hV:VarsR c.slots vs E a):∀ {rs:List ResultVar} {as:List ARes} {l:List V},c.res rs=some as→resV vs h as=some l→
  ∃ xs:List Value,(rs.mapM (resOf a.tmps)).run c.P w=.ok xs w∧xs.length=l.length∧∀ (i:Nat) (v:V) (x:Value),l[i]? = some v→xs[i]? = some x→VR E v x
 | [],as,l,hc,hl=>by
  simp only [Cx.res,Option.some.injEq] at hc;subst hc
  simp only [resV,Option.some.injEq] at hl;subst hl
  exact ⟨[],by simp,rfl,by simp⟩
 | .tmp t :: rs,as,l,hc,hl=>by
  simp only [Cx.res] at hc
  split at hc
  ·rename_i s as' hs hr
   simp only [Option.some.injEq] at hc;subst hc
   simp only [resV,nth_eq] at hl
   split at hl
   ·rename_i v l' hv hl'
    simp only [Option.some.injEq] at hl;subst hl
    obtain ⟨xs,h1,h2,h3⟩:=res_ok hR hV hr hl'
    have hx:VR E v (a.tmps.getD t undef):=hV t s v hs hv
    refine ⟨a.tmps.getD t undef :: xs,?_,by simp [h2],?_⟩
    ·simp [List.mapM_cons,resOf,h1]
    ·rintro (_ | i) v' x hv' hx'
     ·simp at hv' hx';subst hv';rw [← hx'];simpa using hx
     ·simp at hv' hx';exact h3 i v' x hv' hx'
   ·cases hl
  ·cases hc
 | .cell t ty :: rs,as,l,hc,hl=>by
  simp only [Cx.res] at hc
  split at hc
  ·rename_i s ag n as' hs hld hr
   simp only [Option.some.injEq] at hc;subst hc
   simp only [resV,nth_eq] at hl
   split at hl
   ·rename_i A hA
    split at hl
    ·rename_i v l' hv hl'
     simp only [Option.some.injEq] at hl;subst hl
     obtain ⟨xs,h1,h2,h3⟩:=res_ok hR hV hr hl'
     obtain ⟨ad,r,e1,e2,e3⟩:=rd_load hR hld (hV t s A hs hA) hv
     have e1':a.tmps.getD t undef=.pointer (some ad):=e1
     refine ⟨r :: xs,?_,by simp [h2],?_⟩
     ·simp only [List.mapM_cons,resOf,Sem.run_bind,e1',asAddr]
      simp [e2,h1]
     ·rintro (_ | i) v' x hv' hx'
      ·simp at hv' hx';subst hv' hx';exact e3
      ·simp at hv' hx';exact h3 i v' x hv' hx'
    ·cases hl
   ·cases hl
  ·cases hc
theorem results_eq (fn:Func) (tmps:Array Value):results fn tmps=(fn.results.mapM (resOf tmps) >>= fun vs=>pure (if h:vs.size=1 then vs[0] else .tuple vs)):=rfl
theorem pack_ok {E:Env} {l:List V} {xs:List Value} (hl:xs.length=l.length) (h:∀ (i:Nat) (v:V) (x:Value),l[i]? = some v→xs[i]? = some x→VR E v x) :
  VR E (packV l) (if h:xs.toArray.size=1 then xs.toArray[0] else .tuple xs.toArray):=by
 match l,xs,hl with
 | [],[],_=>exact .tuple rfl (by simp)
 | [v],[x],_=>simpa [packV] using h 0 v x rfl rfl
 | v :: u :: l,x :: y :: xs,hl=>
  rw [dif_neg (by simp)]
  exact .tuple (by simpa using hl) (fun i c z hc hz=>h i c z hc (by simpa using hz))
theorem func_ok {P:Program} {glob:Nat→Option V} {f:FuncId} {fn:Func} {a:AFunc} (hm:P.follows .mixedOrders=true) (hcall:CallOk ⟨P,glob⟩ call) (hf:P.funcs[f]? = some fn) (he:enters P f=true) (hp:prep P glob fn=some a)
  {fuel:Nat} {args:List V} {h h':Heap} {v:V} (hb:body call fuel a args h=some (v,h')):CallsTo ⟨P,glob⟩ f args h v h':=by
 unfold prep at hp
 split at hp
 ·cases hp
 rename_i b hbody
 simp only at hp
 split at hp
 case h_2=>cases hp
 rename_i code res hcode hres
 simp only [Option.some.injEq] at hp;subst hp
 unfold body at hb
 split at hb
 ·cases hb
 rename_i harity
 split at hb
 ·cases hb
 ·rename_i ex vs' h1 hne hx
  split at hb
  ·rename_i l hl
   simp only [Option.some.injEq,Prod.mk.injEq] at hb
   obtain ⟨rfl,rfl⟩:=hb
   refine ⟨he,exec_grow hcall.grows fuel _ hx,fun E w xs hR hsz hrel=>?_⟩
   refine calls_of_wp hf hbody ?_
   have hok:=code_ok (c:=⟨P,glob,slotsOf fn b,fn.ntmps⟩) hm hcall fuel b hcode hx
   refine hok E w _ (xs++Array.replicate (fn.ntmps - xs.size) undef).size _ (by simp;omega) hR ?_ rfl ?_
   ·intro t s v hs hv
    rw [get_initV] at hv
    rw [idx_some hs] at hv
    simp only [Option.map_some,Option.some.injEq] at hv
    subst hv
    cases hat:args[t]? with
    | none=>exact .any _
    | some u=>
     have hlt:t<xs.size:=by
      rw [hsz]
      rcases Nat.lt_or_ge t args.length with h | h
      ·exact h
      ·rw [List.getElem?_eq_none h] at hat;cases hat
     have:({ tmps:=xs++Array.replicate (fn.ntmps - xs.size) undef,defers:=[] } : Act).eval (.tmp t)=xs[t]:=by
      simp [Act.eval,Array.getElem?_append,hlt]
     rw [this]
     exact hrel t u _ hat (by simp [hlt])
   ·intro E' a' w' hR' hG hV' _ hd
    obtain ⟨ys,y1,y2,y3⟩:=res_ok (c:=⟨P,glob,slotsOf fn b,fn.ntmps⟩) hR' hV' hres hl
    have hrun:(results fn a'.tmps).run P w'=.ok (if h:ys.toArray.size=1 then ys.toArray[0] else .tuple ys.toArray) w':=by
     have y1':Sem.run P (List.mapM (resOf a'.tmps) fn.results.toList) w'=Result.ok ys w':=y1
     rw [results_eq]
     simp only [Sem.run_bind,Array.mapM_eq_mapM_toList,Sem.run_map,y1',Result.andThen_ok,Sem.run_pure]
    have fin:a'.defers=[]∧∃ v,(results fn a'.tmps).run P w'=.ok v w'∧∃ (x:Value) (E'':Env),Ending.returned v=.returned x∧R ⟨P,glob⟩ E'' h1 w'∧VR E'' (packV l) x∧Good h.n E w E'' w':=
     ⟨hd,_,hrun,_,E',rfl,hR',pack_ok y2 y3,hG⟩
    cases ex with
    | normal=>exact fin
    | exit i=>exact (hne i rfl).elim
    | ret=>exact fin
  ·cases hb
 ·cases hb
def TableOk (P:Program) (glob:Nat→Option V) (T:Nat→Option AFunc):Prop:=∀ f a,T f=some a→enters P f=true∧∃ fn,P.funcs[f]? = some fn∧prep P glob fn=some a
theorem run_ok {P:Program} {glob:Nat→Option V} {T:Nat→Option AFunc} {O:CallF} (hm:P.follows .mixedOrders=true) (hT:TableOk P glob T) (hO:CallOk ⟨P,glob⟩ O):∀ n,CallOk ⟨P,glob⟩ (run T O n)
 | 0=>by intro f args H v H' h;cases h
 | n+1=>by
  intro f args H v H' h
  simp only [run] at h
  split at h
  ·rename_i r hr
   simp only [Option.some.injEq] at h;subst h
   exact hO f args H v H' hr
  ·split at h
   ·rename_i a ha
    obtain ⟨h1,fn,h2,h3⟩:=hT f a ha
    exact func_ok hm (run_ok hm hT hO n) h2 h1 h3 h
   ·cases h
def noO:CallF:=fun _ _ _=>none
theorem noO_ok (C:Ctx):CallOk C noO:=fun _ _ _ _ _ h=>by cases h
end Am
namespace Am
open Go
def PT.Forall {α:Type} (p:Nat→α→Prop):PT α→Prop
 | .leaf=>True
 | .node l v r=>(∀ a,v=some a→p 0 a)∧l.Forall (fun k=>p (2 * k+1))∧r.Forall (fun k=>p (2 * k+2))
def FnOk (P:Program) (glob:Nat→Option V) (f:Nat) (a:AFunc):Prop:=enters P f=true∧∃ fn,P.funcs[f]? = some fn∧prep P glob fn=some a
end Am
namespace Am
open Go
theorem PT.Forall.get {α:Type} {t:PT α} : ∀ {p:Nat→α→Prop},t.Forall p→∀ (k:Nat) (a:α),t.get k=some a→p k a:=by
 induction t with
 | leaf=>intro p _ k a h;simp [PT.get] at h
 | node l v r ihl ihr=>
  intro p h k a hk
  obtain ⟨h1,h2,h3⟩:=h
  cases k with
  | zero=>exact h1 a hk
  | succ k=>
   simp only [PT.get] at hk
   rcases Nat.mod_two_eq_zero_or_one k with e | e
   ·simp only [e] at hk
    have:=ihl h2 (k / 2) a hk
    rw [show 2 * (k / 2)+1=k+1 from by omega] at this
    exact this
   ·simp only [e] at hk
    have:=ihr h3 (k / 2) a hk
    rw [show 2 * (k / 2)+2=k+1 from by omega] at this
    exact this
theorem tableOk {P:Program} {glob:Nat→Option V} {t:PT AFunc} (h:t.Forall (FnOk P glob)):TableOk P glob t.get:=fun f a e=>h.get f a e
end Am
namespace Am
open Go
inductive Flat:V→Prop where
 | any:Flat .any
 | bool (b:Bool):Flat (.bool b)
 | int (k:IntKind) (n:Int):Flat (.int k n)
 | str (s:List UInt8):Flat (.str s)
 | nilp:Flat .nilp
 | vptr {v:V} {off:Nat} (h:∀ c∈v.cells,Flat c):Flat (.vptr v off)
 | nils:Flat .nils
 | vec {es:List V} (h:∀ v∈es,∀ c∈v.cells,Flat c):Flat (.vec es)
 | nilm:Flat .nilm
 | fn {f:Nat} {a b:List V} (h:∀ c∈a,Flat c) (h':∀ c∈b,Flat c):Flat (.fn f a b)
 | nilf:Flat .nilf
 | iface {t:Nat} {v:V} (h:Flat v):Flat (.iface t v)
 | nili:Flat .nili
 | agg {cs:List V} (h:∀ c∈cs,Flat c):Flat (.agg cs)
 | tuple {cs:List V} (h:∀ c∈cs,Flat c):Flat (.tuple cs)
 | sym (i:Nat):Flat (.sym i)
theorem mem_get {l:List V} {i:Nat} {c:V} (h:l[i]? = some c):c∈l:=List.mem_of_getElem? h
theorem VR.flat {E E':Env} {v:V} {x:Value} (h:VR E v x) (hf:Flat v) (hi:∀ b c,E.im b=some c→E'.im b=some c) (ht:∀ i x,E.tok i=some x→E'.tok i=some x):VR E' v x:=by
 induction h with
 | any x=>exact .any x
 | bool b=>exact .bool b
 | int k n=>exact .int k n
 | str s=>exact .str s
 | nilp=>exact .nilp
 | ptr h h1 h2=>cases hf
 | vptr h h1 _ ih=>
  cases hf with
  | vptr hf=>exact .vptr (hi _ _ h) h1 fun i c x hc hx=>ih i c x hc hx (hf c (mem_get hc))
 | nils=>exact .nils
 | sl h h1 h2 h3 h4 h5=>cases hf
 | vec0 a cap=>exact .vec0 a cap
 | vec h h1 h2 _ ih=>
  cases hf with
  | vec hf=>exact .vec (hi _ _ h) h1 h2 fun i j v c x hv hc hx=>ih i j v c x hv hc hx (hf v (mem_get hv) c (mem_get hc))
 | nilm=>exact .nilm
 | map h=>cases hf
 | fn h1 h2 _ _ ih1 ih2=>
  cases hf with
  | fn hf hf'=>exact .fn h1 h2 (fun i c x hc hx=>ih1 i c x hc hx (hf c (mem_get hc))) (fun i c x hc hx=>ih2 i c x hc hx (hf' c (mem_get hc)))
 | nilf=>exact .nilf
 | iface _ ih=>
  cases hf with
  | iface hf=>exact .iface (ih hf)
 | nili=>exact .nili
 | agg h _ ih=>
  cases hf with
  | agg hf=>exact .agg h fun i c x hc hx=>ih i c x hc hx (hf c (mem_get hc))
 | tuple h _ ih=>
  cases hf with
  | tuple hf=>exact .tuple h fun i c x hc hx=>ih i c x hc hx (hf c (mem_get hc))
 | sym h h1=>exact .sym (ht _ _ h) h1
mutual
def V.flatB:V→Bool
 | .any | .bool _ | .int _ _ | .str _ | .nilp | .nils | .nilm | .nilf | .nili | .sym _=>true
 | .vptr v _=>v.flatB
 | .vec es=>V.flatBL es
 | .fn _ a b=>V.flatBL a && V.flatBL b
 | .iface _ v=>v.flatB
 | .agg cs=>V.flatBL cs
 | .tuple cs=>V.flatBL cs
 | .ptr .. | .sl .. | .map _=>false
def V.flatBL:List V→Bool
 | []=>true
 | v :: l=>v.flatB && V.flatBL l
end
theorem flat_cells {v:V} (h:Flat v):∀ c∈v.cells,Flat c:=by
 intro c hc
 cases v <;> simp only [V.cells,List.mem_singleton] at hc <;> first
  | (subst hc;exact h)
  | (cases h with
     | agg h=>exact h c hc)
mutual
theorem flatB_ok:∀ (v:V),v.flatB=true→Flat v
 | .any,_=>.any
 | .bool b,_=>.bool b
 | .int k n,_=>.int k n
 | .str s,_=>.str s
 | .nilp,_=>.nilp
 | .nils,_=>.nils
 | .nilm,_=>.nilm
 | .nilf,_=>.nilf
 | .nili,_=>.nili
 | .sym i,_=>.sym i
 | .vptr v _,h=>.vptr (flat_cells (flatB_ok v (by simpa [V.flatB] using h)))
 | .vec es,h=>.vec fun v hv=>flat_cells (flatBL_ok es (by simpa [V.flatB] using h) v hv)
 | .fn _ a b,h=>by
  simp only [V.flatB,Bool.and_eq_true] at h
  exact .fn (flatBL_ok a h.1) (flatBL_ok b h.2)
 | .iface _ v,h=>.iface (flatB_ok v (by simpa [V.flatB] using h))
 | .agg cs,h=>.agg (flatBL_ok cs (by simpa [V.flatB] using h))
 | .tuple cs,h=>.tuple (flatBL_ok cs (by simpa [V.flatB] using h))
 | .ptr ..,h=>by simp [V.flatB] at h
 | .sl ..,h=>by simp [V.flatB] at h
 | .map _,h=>by simp [V.flatB] at h
theorem flatBL_ok:∀ (l:List V),V.flatBL l=true→∀ v∈l,Flat v
 | [],_=>by simp
 | a :: l,h=>by
  simp only [V.flatBL,Bool.and_eq_true] at h
  have h1:=flatB_ok a h.1
  have h2:=flatBL_ok l h.2
  intro v hv
  rcases List.mem_cons.1 hv with rfl | hv
  ·exact h1
  ·exact h2 v hv
end
def chunks (esz:Nat):Nat→List V→List V
 | 0,_=>[]
 | n+1,c=>.agg (c.take esz) :: chunks esz n (c.drop esz)
mutual
def flatV (h:Heap):Nat→V→Option V
 | 0,_=>none
 | d+1,v=>match v with
  | .sl id off len ver esz _=>match h.get id with
   | some (.cells c cur low)=>match good c cur low ver (off+len * esz) with
    | true=>match flatL h d ((c.drop off).take (len * esz)) with
     | some l=>some (.vec (chunks esz len l))
     | none=>none
    | false=>none
   | _=>none
  | .agg cs=>match flatL h d cs with
   | some l=>some (.agg l)
   | none=>none
  | .tuple cs=>match flatL h d cs with
   | some l=>some (.tuple l)
   | none=>none
  | .iface t v=>match flatV h d v with
   | some v=>some (.iface t v)
   | none=>none
  | v=>match v.flatB with
   | true=>some v
   | false=>none
def flatL (h:Heap):Nat→List V→Option (List V)
 | 0,_=>none
 | d+1,l=>match l with
  | []=>some []
  | v :: l=>match flatV h d v,flatL h d l with
   | some v,some l=>some (v :: l)
   | _,_=>none
end
noncomputable def Env.froze (E:Env) (w:World):Nat→Option (Array Value):=fun b=>
 match E.im b with
 | some c=>some c
 | none=>match w.heap[b]? with
  | some (.cells c _ _)=>open Classical in if E.owns b then some c else none
  | _=>none
theorem froze_im {E:Env} {w:World} {b:Nat} {c:Array Value} (h:E.im b=some c):E.froze w b=some c:=by simp [Env.froze,h]
theorem froze_own {E:Env} {w:World} {b:Nat} {c:Array Value} {t:TypeId} {fr:Nat×Nat} (h:E.im b=none) (hb:w.heap[b]? = some (.cells c t fr)) (ho:E.owns b):E.froze w b=some c:=by
 simp [Env.froze,h,hb,ho]
theorem length_chunks (esz:Nat):∀ (n:Nat) (c:List V),(chunks esz n c).length=n
 | 0,_=>rfl
 | n+1,c=>by simp [chunks,length_chunks esz n]
theorem get_chunks (esz:Nat):∀ (n:Nat) (c:List V) (i:Nat),i<n→(chunks esz n c)[i]? = some (.agg ((c.drop (i * esz)).take esz))
 | 0,_,i,h=>absurd h (Nat.not_lt_zero _)
 | n+1,c,0,_=>by simp [chunks]
 | n+1,c,i+1,h=>by
  simp only [chunks,List.getElem?_cons_succ]
  rw [get_chunks esz n _ i (by omega),List.drop_drop,show (i+1) * esz=esz+i * esz from by rw [Nat.add_mul,Nat.one_mul,Nat.add_comm]]
variable {C:Ctx} {E:Env} {H:Heap} {w:World}
noncomputable def Env.still (E:Env) (w:World):Env:=⟨fun _ _=>none,E.froze w,E.tok⟩
theorem mem_chunks {esz n:Nat} {l:List V} {v:V} (hv:v∈chunks esz n l) {c:V} (hc:c∈v.cells):c∈l:=by
 obtain ⟨i,hi,e⟩:=List.mem_iff_getElem.1 hv
 rw [length_chunks] at hi
 have:=get_chunks esz n l i hi
 rw [List.getElem?_eq_getElem (by rw [length_chunks];exact hi),e] at this
 simp only [Option.some.injEq] at this;subst this
 exact List.mem_of_mem_drop (List.mem_of_mem_take hc)
mutual
theorem flatV_flat:∀ (d:Nat) (v u:V),flatV H d v=some u→Flat u
 | 0,v,u,h=>by simp [flatV] at h
 | d+1,v,u,h=>by
  simp only [flatV] at h
  split at h
  ·split at h
   ·split at h
    ·split at h
     ·rename_i l hl
      simp only [Option.some.injEq] at h;subst h
      exact .vec fun v hv c hc=>(flatL_flat d _ l hl).2 c (mem_chunks hv hc)
     ·cases h
    ·cases h
   ·cases h
  ·split at h
   ·rename_i l hl
    simp only [Option.some.injEq] at h;subst h
    exact .agg (flatL_flat d _ l hl).2
   ·cases h
  ·split at h
   ·rename_i l hl
    simp only [Option.some.injEq] at h;subst h
    exact .tuple (flatL_flat d _ l hl).2
   ·cases h
  ·split at h
   ·rename_i v' hv'
    simp only [Option.some.injEq] at h;subst h
    exact .iface (flatV_flat d _ v' hv')
   ·cases h
  ·split at h
   ·rename_i hf
    simp only [Option.some.injEq] at h;subst h
    exact flatB_ok _ hf
   ·cases h
theorem flatL_flat:∀ (d:Nat) (l m:List V),flatL H d l=some m→m.length=l.length∧∀ v∈m,Flat v
 | 0,l,m,h=>by simp [flatL] at h
 | d+1,[],m,h=>by simp [flatL] at h;subst h;simp
 | d+1,v :: l,m,h=>by
  simp only [flatL] at h
  split at h
  ·rename_i u ms hu hm
   simp only [Option.some.injEq] at h;subst h
   obtain ⟨k1,k2⟩:=flatL_flat d l ms hm
   refine ⟨by simp [k1],fun z hz=>?_⟩
   rcases List.mem_cons.1 hz with rfl | hz
   ·exact flatV_flat d v z hu
   ·exact k2 z hz
  ·cases h
end
mutual
theorem flatV_ok (hR:R C E H w):∀ (d:Nat) (v u:V) (x:Value),flatV H d v=some u→VR E v x→VR (E.still w) u x
 | 0,v,u,x,h,_=>by simp [flatV] at h
 | d+1,v,u,x,h,hv=>by
  simp only [flatV] at h
  split at h
  ·rename_i id off len ver esz full
   split at h
   ·rename_i c cur low hg
    split at h
    ·rename_i hgd
     split at h
     ·rename_i l hl
      simp only [Option.some.injEq] at h;subst h
      cases hv with
      | @sl _ _ _ _ _ _ r a cap g1 g2 g3 g4 g5 g6=>
      obtain ⟨ob,o1,o2⟩:=hR.obj _ _ _ g1
      rw [hg] at o1;cases o1
      obtain ⟨rc,t,fr,h0,h1,h2,h3,h4,h5,h6,h7,h8,h9⟩:=o2
      obtain ⟨gl,gv⟩:=good_some hgd
      have hsl:((c.drop off).take (len * esz)).length=len * esz:=by simp;omega
      have k1:=(flatL_flat d _ l hl).1
      have k3:=flatL_ok hR d ((c.drop off).take (len * esz)) l (rc.toList.drop (off - r.lo)) hl (fun i v x hv hx=>by
       rw [List.getElem?_take] at hv
       split at hv
       ·rename_i hi
        rw [List.getElem?_drop] at hv hx
        obtain ⟨y,hy,hvy⟩:=h8 (off+i) v hv (by omega) (by omega) (gv.elim .inl fun g=>.inr (by omega))
        rw [Array.getElem?_toList,show off - r.lo+i=off+i - r.lo from by omega,hy] at hx
        cases hx;exact hvy
       ·cases hv)
      have hlen:l.length=len * esz:=by rw [k1,hsl]
      by_cases hlz:len=0
      ·subst hlz;exact .vec0 a cap
      ·obtain ⟨rfl,_⟩:=g6 (by omega)
       have hvec:=VR.vec (E:=E.still w) (es:=chunks esz len l) (b:=r.b) (o:=off - r.lo) (esz:=esz) (cap:=cap) (cells:=rc) (froze_own (hR.disj _ _ _ g1) h0 ⟨_,_,_,g1,rfl⟩) (by rw [length_chunks];exact g4)
        (fun i v hv=>by
         have hi:i<len:=by
          rcases Nat.lt_or_ge i len with h | h
          ·exact h
          ·rw [List.getElem?_eq_none (by rw [length_chunks];exact h)] at hv;cases hv
         rw [get_chunks esz len l i hi] at hv
         simp only [Option.some.injEq] at hv;subst hv
         have hm:(i+1) * esz≤len * esz:=Nat.mul_le_mul_right _ hi
         rw [Nat.add_mul,Nat.one_mul] at hm
         exact ⟨by simp [V.cells,hlen];omega,by omega⟩)
        (fun i j v c' x hv hc' hx=>by
         have hi:i<len:=by
          rcases Nat.lt_or_ge i len with h | h
          ·exact h
          ·rw [List.getElem?_eq_none (by rw [length_chunks];exact h)] at hv;cases hv
         rw [get_chunks esz len l i hi] at hv
         simp only [Option.some.injEq] at hv;subst hv
         simp only [V.cells,List.getElem?_take] at hc'
         split at hc'
         ·rw [List.getElem?_drop] at hc'
          refine k3 (i * esz+j) c' x hc' ?_
          rw [List.getElem?_drop,Array.getElem?_toList,← Nat.add_assoc]
          exact hx
         ·cases hc')
       rw [length_chunks] at hvec
       exact hvec
     ·cases h
    ·cases h
   ·cases h
  ·split at h
   ·rename_i l hl
    simp only [Option.some.injEq] at h;subst h
    cases hv with
    | @agg _ xs g1 g2=>
     have k1:=(flatL_flat d _ l hl).1
     have k3:=flatL_ok hR d _ l xs.toList hl (fun i v x hv hx=>g2 i v x hv (by simpa using hx))
     exact .agg (by rw [g1,k1]) fun i c x hc hx=>k3 i c x hc (by simpa using hx)
   ·cases h
  ·split at h
   ·rename_i l hl
    simp only [Option.some.injEq] at h;subst h
    cases hv with
    | @tuple _ xs g1 g2=>
     have k1:=(flatL_flat d _ l hl).1
     have k3:=flatL_ok hR d _ l xs.toList hl (fun i v x hv hx=>g2 i v x hv (by simpa using hx))
     exact .tuple (by rw [g1,k1]) fun i c x hc hx=>k3 i c x hc (by simpa using hx)
   ·cases h
  ·split at h
   ·rename_i v' hv'
    simp only [Option.some.injEq] at h;subst h
    cases hv with
    | iface hx=>
     exact .iface (flatV_ok hR d _ v' _ hv' hx)
   ·cases h
  ·split at h
   ·rename_i hf
    simp only [Option.some.injEq] at h;subst h
    have hfl:=flatB_ok _ hf
    exact hv.flat hfl (fun b c hb=>froze_im hb) (fun _ _ h=>h)
   ·cases h
theorem flatL_ok (hR:R C E H w):∀ (d:Nat) (l m:List V) (xs:List Value),flatL H d l=some m→(∀ (i:Nat) (v:V) (x:Value),l[i]? = some v→xs[i]? = some x→VR E v x)→
  ∀ (i:Nat) (v:V) (x:Value),m[i]? = some v→xs[i]? = some x→VR (E.still w) v x
 | 0,l,m,xs,h,_=>by simp [flatL] at h
 | d+1,[],m,xs,h,_=>by simp [flatL] at h;subst h;simp
 | d+1,v :: l,m,[],h,hx=>by simp
 | d+1,v :: l,m,x :: xs,h,hx=>by
  simp only [flatL] at h
  split at h
  ·rename_i u ms hu hm
   simp only [Option.some.injEq] at h;subst h
   have k3:=flatL_ok hR d l ms xs hm (fun i v y hv hy=>hx (i+1) v y (by simpa using hv) (by simpa using hy))
   have q2:=flatV_ok hR d v u x hu (hx 0 v x rfl rfl)
   rintro (_ | i) z y hz hy
   ·simp at hz hy;subst hz hy;exact q2
   ·simp at hz hy;exact k3 i z y hz hy
  ·cases h
end
end Am
namespace Am
open Go
variable {C:Ctx}
theorem flat_of_cells {v:V} (h:Flat (.vptr v 0)):Flat v:=by
 cases h with
 | vptr h=>
  cases v with
  | agg cs=>exact .agg h
  | _=>exact h _ (by simp [V.cells])
theorem GlR.flat {E E':Env} {g:Nat} {v:V} (h:GlR E g v) (hf:Flat (.vptr v 0)) (hi:∀ b c,E.im b=some c→E'.im b=some c) (ht:∀ i x,E.tok i=some x→E'.tok i=some x):GlR E' g v:=by
 unfold GlR at h ⊢
 split
 ·rename_i hg;rw [if_pos hg] at h;exact VR.flat h hf hi ht
 ·rename_i hg
  rw [if_neg hg] at h
  obtain ⟨x,k1,k2,k3⟩:=h
  exact ⟨x,ht _ _ k1,k2,k3.flat (flat_of_cells hf) hi ht⟩
theorem owns_none {E:Env} (h:∀ id ver,E.mu id ver=none) (b:Nat):¬ E.owns b:=by
 rintro ⟨id,ver,r,h',_⟩
 rw [h] at h';cases h'
theorem pure_rule {f:Nat} {args:List V} {v u:V} {H':Heap} {d:Nat} (hg:∀ g v,C.glob g=some v→Flat (.vptr v 0)) (h:CallsTo C f args Heap.empty v H') (ha:∀ a∈args,Flat a) (hu:flatV H' d v=some u) (H:Heap) :
  CallsTo C f args H u H:=by
 obtain ⟨h1,_,h3⟩:=h
 refine ⟨h1,Nat.le_refl _,fun E w xs hR hs hrel=>?_⟩
 have hR0:R C ⟨fun _ _=>none,E.im,E.tok⟩ Heap.empty w:=
  ⟨(fun _ _ _ h=>by cases h),(fun _ _ _ h=>by cases h),(fun _ _ _ _ _ _ h=>by cases h),hR.imm,(fun _ _ _ h=>by cases h),fun g v h=>(hR.gl g v h).flat (hg g v h) (fun _ _ h=>h) (fun _ _ h=>h),(fun id _=>by cases id <;> rfl)⟩
 refine (h3 ⟨fun _ _=>none,E.im,E.tok⟩ w xs hR0 hs (fun i a x hi hx=>(hrel i a x hi hx).flat (ha a (mem_get hi)) (fun _ _ h=>h) (fun _ _ h=>h))).mono ?_
 rintro e w' ⟨x,E1,rfl,hR1,hv1,hG1⟩
 have same:∀ b,b<w.heap.size→w'.heap[b]? = w.heap[b]?∧¬ E1.owns b:=fun b hb=>hG1.frame b hb (owns_none (fun _ _=>rfl) b)
 have him:∀ b c,E.im b=some c→E1.froze w' b=some c:=fun b c hb=>froze_im (hG1.le.im b c hb)
 have hle:E.Le ⟨E.mu,E1.froze w',E1.tok⟩:=⟨fun _ _ _ h=>h,him,hG1.le.tok⟩
 have hnone:∀ b,b<w.heap.size→E.im b=none→E1.froze w' b=none:=by
  intro b hb hn
  have h1:=hG1.imm b hb hn
  unfold Env.froze
  rw [h1]
  simp only
  split
  ·rw [if_neg (same b hb).2]
  ·rfl
 refine ⟨x,⟨E.mu,E1.froze w',E1.tok⟩,rfl,⟨hR.dom,fun id ver r h=>?_,hR.sep,fun b c h=>?_,fun id ver r h=>?_,fun g v h=>(hR.gl g v h).mono hle,hR.wf⟩,?_,⟨hle,fun b hb hno=>⟨(same b hb).1,hno⟩,fun _ _ h=>h,hG1.size,hG1.os,hG1.tape,hG1.output,hnone⟩⟩
 ·obtain ⟨ob,o1,o2⟩:=hR.obj _ _ _ h
  exact ⟨ob,o1,o2.mono hle (same _ o2.block).1⟩
 ·have h:E1.froze w' b=some c:=h
  unfold Env.froze at h
  split at h
  ·rename_i c' hc'
   simp only [Option.some.injEq] at h;subst h
   exact hR1.imm b c' hc'
  ·split at h
   ·rename_i c' t fr hb
    split at h
    ·simp only [Option.some.injEq] at h;subst h
     exact ⟨t,fr,hb⟩
    ·cases h
   ·cases h
 ·exact hnone _ (hR.mu_lt h) (hR.disj _ _ _ h)
 ·exact (flatV_ok hR1 d v u x hu hv1).flat (flatV_flat d v u hu) (fun _ _ h=>h) (fun _ _ h=>h)
structure Memo where
 f:Nat
 args:List V
 res:V
def Memo.ok (C:Ctx) (m:Memo):Prop:=∀ H,CallsTo C m.f m.args H m.res H
def memoO:List Memo→CallF
 | [],_,_,_=>none
 | m :: l,f,args,h=>match Nat.beq m.f f with
  | true=>match V.beqL m.args args with
   | true=>some (m.res,h)
   | false=>memoO l f args h
  | false=>memoO l f args h
theorem memoO_ok {l:List Memo} (h:∀ m∈l,m.ok C):CallOk C (memoO l):=by
 induction l with
 | nil=>intro f args H v H' h;cases h
 | cons m l ih=>
  intro f args H v H' he
  simp only [memoO] at he
  have rest:=ih (fun m hm=>h m (by simp [hm])) f args H v H'
  split at he
  ·rename_i hf
   split at he
   ·rename_i hargs
    rw [nbeq] at hf
    have:=V.beqL_sound _ _ hargs
    subst hf this
    simp only [Option.some.injEq,Prod.mk.injEq] at he
    obtain ⟨rfl,rfl⟩:=he
    exact h m (by simp) H
   ·exact rest he
  ·exact rest he
theorem memo_run {P:Program} {glob:Nat→Option V} {T:Nat→Option AFunc} {O:CallF} (hm:P.follows .mixedOrders=true) (hg:∀ g v,glob g=some v→Flat (.vptr v 0)) (hT:TableOk P glob T) (hO:CallOk ⟨P,glob⟩ O) {f:Nat} {args:List V} {u:V} (n d:Nat)
  (ha:V.flatBL args=true) (h:((run T O n f args Heap.empty).bind fun r=>flatV r.2 d r.1)=some u):Memo.ok ⟨P,glob⟩ ⟨f,args,u⟩:=by
 intro H
 cases hr:run T O n f args Heap.empty with
 | none=>rw [hr] at h;cases h
 | some r=>
  rw [hr] at h
  exact pure_rule hg (run_ok hm hT hO n f args Heap.empty r.1 r.2 hr) (flatBL_ok args ha) h H
end Am
namespace Am
open Go
def Rep (C:Ctx) (a b:V):Prop:=∀ (E:Env) (H:Heap) (w:World),R C E H w→∀ x,VR E a x→VR E b x
theorem Rep.refl (C:Ctx) (a:V):Rep C a a:=fun _ _ _ _ _ h=>h
theorem Rep.int {C:Ctx} {i:Nat} {k:IntKind} {n:Int} (h:C.glob (tokB+i)=some (.int k n)):Rep C (.int k n) (.sym i):=by
 intro E H w hR x hx
 have:=hR.gl _ _ h
 unfold GlR at this
 rw [if_neg (by omega),show tokB+i - tokB=i from by omega] at this
 obtain ⟨y,h1,h2,h3⟩:=this
 obtain rfl:=hx.int_inv
 obtain rfl:=h3.int_inv
 exact .sym h1 h2
theorem Rep.agg {C:Ctx} {a b:List V} (hl:a.length=b.length) (h:∀ (i:Nat) (x y:V),a[i]? = some x→b[i]? = some y→Rep C x y):Rep C (.agg a) (.agg b):=by
 intro E H w hR x hx
 cases hx with
 | agg h1 h2=>
  refine .agg (by rw [h1,hl]) fun i c y hc hy=>?_
  obtain ⟨hi,_⟩:=List.getElem?_eq_some_iff.1 hc
  have hi':i<a.length:=by omega
  exact h i a[i] c (List.getElem?_eq_getElem hi') hc E H w hR y (h2 i a[i] y (List.getElem?_eq_getElem hi') hy)
end Am
