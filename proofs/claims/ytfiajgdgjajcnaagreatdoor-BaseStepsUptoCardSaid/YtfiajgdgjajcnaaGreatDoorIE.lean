/-
  The interpreter under the abstract machine, part IE. Conditions: those that each theorem states.
-/
import Derived.Test.YtfiajgdgjajcnaaGreatDoorIB
import Derived.Test.YtfiajgdgjajcnaaGreatDoorID
import Derived.Test.YtfiajgdgjajcnaaGreatDoorIA
set_option linter.unusedSimpArgs false
set_option linter.unusedVariables false
namespace AmT
open Go Am
set_option maxRecDepth 100000
set_option maxHeartbeats 4000000
variable {O:CallF}
def FrmI (Z:Nat→Prop) (h:Heap) (c:List V) (f:Frm):Prop:=∃ vv stk lv ls,c=[.int .i64 (.ofNat f.fn),.int .i64 (.ofNat f.at_),vv,stk]∧RSz Z h 4 vv lv∧VasR Z h f.vars lv∧RSz Z h 4 stk ls∧VasR Z h f.stack ls∧f.vars.length≤2097152∧f.stack.length≤2097152
theorem FrmI.ext {Z Z':Nat→Prop} {S:List Nat} {h h':Heap} {c:List V} {f:Frm} (hE:ExtX S h h') (hs:∀ j,Z j→j∉S) (hz:∀ j,Z j→j<h.n→Z' j) (k:FrmI Z h c f):FrmI Z' h' c f:=by
 obtain ⟨vv,stk,lv,ls,e,r1,r2,r3,r4,r5⟩:=k
 exact ⟨vv,stk,lv,ls,e,r1.extL hE hs hz,r2.ext hE hs hz,r3.extL hE hs hz,r4.ext hE hs hz,r5⟩
def FrmsI (Z:Nat→Prop) (h:Heap) (lf:List (List V)) (F:List Frm):Prop:=∀ (i:Nat) (c:List V) (f:Frm),lf[i]? = some c→F[i]? = some f→FrmI Z h c f
def TrnI (Z:Nat→Prop) (h:Heap) (c:List V) (T:Trn):Prop:=∃ vf ve vs lf le ls,c=[vf,ve,.int .i64 T.self,.int .i64 T.next,.int .i64 T.used,.int .u8 T.over,.int .i64 T.trap,.int .i64 T.role,vs]∧
 RSz Z h 4 vf lf∧lf.length=T.frames.length∧FrmsI Z h lf T.frames∧RSz Z h 4 ve le∧All2 (EffR Z h) le T.effs∧RSz Z h 4 vs ls∧VasR Z h T.state ls∧T.frames.length≤2097152∧T.effs.length≤2097152∧T.state.length≤2097152
theorem TrnI.shape {Z:Nat→Prop} {h:Heap} {c:List V} {T:Trn} (k:TrnI Z h c T):c.length=9∧allOne c=true:=by
 obtain ⟨vf,ve,vs,lf,le,ls,rfl,r1,_,_,r2,_,r3,_⟩:=k
 exact ⟨rfl,by simp only [allOne,r1.1.one,r2.1.one,r3.1.one];rfl⟩
theorem TrnI.ext {Z Z':Nat→Prop} {S:List Nat} {h h':Heap} {c:List V} {T:Trn} (hE:ExtX S h h') (hs:∀ j,Z j→j∉S) (hz:∀ j,Z j→j<h.n→Z' j) (k:TrnI Z h c T):TrnI Z' h' c T:=by
 obtain ⟨vf,ve,vs,lf,le,ls,e,r1,r2,r3,r4,r5,r6,r7,r8⟩:=k
 exact ⟨vf,ve,vs,lf,le,ls,e,r1.extL hE hs hz,r2,fun i a b h1 h2=>(r3 i a b h1 h2).ext hE hs hz,r4.extL hE hs hz,r5.mono fun _ _ _ _ q=>q.ext hE hs hz,r6.extL hE hs hz,r7.ext hE hs hz,r8⟩
theorem TrnI.ext0 {Z:Nat→Prop} {h h':Heap} {c:List V} {T:Trn} (k:TrnI Z h c T) (hE:Ext h h'):TrnI Z h' c T:=k.ext hE (by simp) fun _ q _=>q
theorem TrnI.mono {Z Z':Nat→Prop} {h:Heap} {c:List V} {T:Trn} (k:TrnI Z h c T) (hz:∀ j,Z j→j<h.n→Z' j):TrnI Z' h c T:=k.ext (ExtX.refl ([]:List Nat) h) (by simp) hz
def TrnL (L:Lab) (h:Heap) (c:List V) (T:Trn):Prop:=∃ vf ve vs lf le ls,c=[vf,ve,.int .i64 T.self,.int .i64 T.next,.int .i64 T.used,.int .u8 T.over,.int .i64 T.trap,.int .i64 T.role,vs]∧
 Ow h 4 vf lf∧(∀ i∈slIds vf,L i=2)∧FrmsR L h lf T.frames∧Ow h 4 ve le∧(∀ i∈slIds ve,L i=3)∧All2 (EffR (fun i=>L i=0) h) le T.effs∧RSz (fun i=>L i=0) h 4 vs ls∧VasR (fun i=>L i=0) h T.state ls
theorem TrnL.shape {L:Lab} {h:Heap} {c:List V} {T:Trn} (k:TrnL L h c T):c.length=9∧allOne c=true:=by
 obtain ⟨vf,ve,vs,lf,le,ls,rfl,r1,_,_,r2,_,_,r3,_⟩:=k
 exact ⟨rfl,by simp only [allOne,r1.rs.one,r2.rs.one,r3.1.one];rfl⟩
structure OffCopied (O:CallF):Prop where
 c1:∀ a h,O 56 a h=none
 c2:∀ a h,O 128 a h=none
 c3:∀ a h,O 129 a h=none
 cp:∀ a h,O 60 a h=none
open Classical in
noncomputable def lab23 (Z:Nat→Prop) (m r:Nat) (vf ve:List Nat):Lab:=fun i=>if i∈vf then 2 else if i∈ve then 3 else if i=r∨(¬ Z i∧i<m) then 1 else 0
theorem copiedM_ok (hO:OffCopied O) {Z:Nat→Prop} {h0:Heap} {c:List V} {T:Trn} (hzn:∀ i,Z i→i<h0.n) (ht:TrnI Z h0 c T):WPc tab.get O 60 [.agg c] h0 (fun v h'=>(∃ c' L,v=.agg c'∧TrnL L h' c' T∧(∀ i,Z i→L i=0)∧∀ i,¬ Z i→i<h0.n→L i=1)∧Ext h0 h'):=by
 refine w_fn' (hO.cp _ _) rfl rfl (by simp only [c60,initV,nth] <;> rfl) ?_
 have hs:=ht.shape
 refine w_seq (w_reg (w_box rfl hs.1 hs.2 fun iA h1 hA hiA hE1=>?_))
 refine w_alloc fun iR h2 hR hiR hE2=>?_
 have E2:=hE1.trans hE2
 have hAl:=hA.1
 replace hA:=hA.ext0 hE2
 have hRl:=hR.1
 obtain ⟨vf,ve,vs,lf,le,ls,rfl,rfz,lfl,sf,rez,ae,rsz,vsz,bf,be,bs⟩:=ht
 have rf:=rfz.1
 have re:=rez.1
 have rs:=rsz.1
 have hll:=vsz.len
 have hle:=ae.1
 have hAR:iA≠iR:=by omega
 repeat' (first|refine w_seq ?_|refine w_reg ?_|refine w_e ?_|refine w_rf rfl (by assumption) (by rfl) (by rfl) (by rfl) ?_)
 refine w_call rfl ((cloneVal_ok hO.c1 (rs.ext0 E2) (by omega)).mono fun ws h3 ⟨hws,hE3,nws⟩=>?_)
 have lws3:=hws.rs.lt
 replace hA:=hA.ext0 hE3
 replace hR:=hR.ext0 hE3
 replace E2:=E2.trans hE3
 replace hA:Own h3 iA [vf,ve,.int .i64 T.self,.int .i64 T.next,.int .i64 T.used,.int .u8 T.over,.int .i64 T.trap,.int .i64 T.role,vs]:=hA
 refine w_chk1 rfl rfl ((hA.at (hi:=9) rfl).fadr (d:=0) (by simp)) (V.beq_refl _) ?_
 refine w_chk1 rfl rfl ((hA.at (hi:=9) rfl).fadr (d:=1) (by simp)) (V.beq_refl _) ?_
 repeat' (first|refine w_opk rfl rfl ?_)
 refine w_call rfl ((cloneEff_ok hO.c2 (re.ext0 E2) (by omega)).mono fun we h4 ⟨hwe,hE4,nwe⟩=>?_)
 replace hA:=hA.ext0 hE4
 replace hR:=hR.ext0 hE4
 replace hws:=hws.ext0 hE4
 replace E2:=E2.trans hE4
 refine w_chk1 rfl rfl ((hA.at (hi:=9) rfl).fadr (d:=0) (by simp)) (V.beq_refl _) ?_
 skip
 refine w_call rfl ((cloneFrame_ok hO.c3 (rf.ext0 E2) (by omega)).mono fun wf h5 ⟨hwf,hE5,nwf⟩=>?_)
 have lws:=hws.rs.lt
 have lwe:=hwe.rs.lt
 have n34:=hE3.1
 have n45:=hE4.1
 have n56:=hE5.1
 have n02:=hE1.1
 have n12:=hE2.1
 replace hA:=hA.ext0 hE5
 replace hR:=hR.ext0 hE5
 replace hws:=hws.ext0 hE5
 replace hwe:=hwe.ext0 hE5
 replace E2:=E2.trans hE5
 have o1:=hws.rs.one
 have o2:=hwe.rs.one
 have o3:=hwf.rs.one
 refine w_store rfl rfl hA (by rw [V.cells1 o1];rfl) (by rw [V.cells1 o1];simp only [allOne,o1]) (by decide) (by simp) fun h6 hA6 hE6 hn6=>?_
 repeat' (first|refine w_opk rfl rfl ?_)
 rw [V.cells1 o1] at hA6
 refine w_store rfl rfl hA6 (by rw [V.cells1 o2];rfl) (by rw [V.cells1 o2];simp only [allOne,o2]) (by decide) (by simp [splice,over]) fun h7 hA7 hE7 hn7=>?_
 repeat' (first|refine w_opk rfl rfl ?_)
 rw [V.cells1 o2] at hA7
 refine w_store rfl rfl hA7 (by rw [V.cells1 o3];rfl) (by rw [V.cells1 o3];simp only [allOne,o3]) (by decide) (by simp [splice,over]) fun h8 hA8 hE8 hn8=>?_
 rw [V.cells1 o3] at hA8
 replace hA8:Own h8 iA [wf,we,.int .i64 T.self,.int .i64 T.next,.int .i64 T.used,.int .u8 T.over,.int .i64 T.trap,.int .i64 T.role,ws]:=hA8
 have hE58:=(hE6.trans hE7).trans hE8
 replace hR:=hR.ext hE58 (by simp;omega)
 replace hwf:=hwf.ext hE58 (fun j hj=>by have:=nwf j hj;simp;omega)
 replace hws:=hws.ext hE58 (fun j hj=>by have:=nws j hj;simp;omega)
 replace hwe:=hwe.ext hE58 (fun j hj=>by have:=nwe j hj;simp;omega)
 have E8:Ext h0 h8:=E2.step hE58 fun j hj=>by simp at hj;exact .inr (by omega)
 have n58:=hE58.1
 have lwf:=hwf.rs.lt
 have sf8:FrmsI Z h8 lf T.frames:=fun i a b h1 h2=>((sf i a b h1 h2).ext E8 (by simp) fun _ q _=>q)
 have ae8:All2 (EffR Z h8) le T.effs:=ae.mono fun _ _ _ _ q=>q.ext E8 (by simp) fun _ q _=>q
 have vs8:VasR Z h8 T.state ls:=vsz.ext E8 (by simp) fun _ q _=>q
 have n08:=E8.1
 have hdw:∀ i∈slIds we,i∉slIds wf:=fun i h1 h2=>by have:=lwe i h1;have:=nwf i h2;omega
 have hds:∀ i∈slIds ws,i∉slIds wf∧i∉slIds we:=fun i h1=>⟨fun h2=>by have:=lws i h1;have:=nwf i h2;omega,fun h2=>by have:=lws3 i h1;have:=nwe i h2;omega⟩
 clear rfz rez rsz hA hA6 hA7 hE6 hE7 hE8 hE58 hE1 hE2 hE3 hE4 hE5 rf re rs sf ae vsz
 have hAk:Own h8 iA [wf,we,.int .i64 T.self,.int .i64 T.next,.int .i64 T.used,.int .u8 T.over,.int .i64 T.trap,.int .i64 T.role,ws]:=hA8
 have rwf:=hwf.rs
 repeat' (first|refine w_seq ?_|refine w_reg ?_|refine w_e ?_|refine w_rf rfl (by assumption) (by rfl) (by rfl) (by rfl) ?_|refine w_len rfl (by assumption) ?_|refine w_opk rfl rfl ?_)
 refine w_count (fun j vs' h=>∃ l K,(Ow h 4 wf l∧l.length=T.frames.length∧(∀ (i:Nat) (a:List V) (b:Frm),i<j→l[i]? = some a→T.frames[i]? = some b→FrmR K h i a b)∧(∀ (i:Nat) (a:List V) (b:Frm),j≤i→l[i]? = some a→T.frames[i]? = some b→FrmI Z h a b)∧(∀ i,i<h8.n→K i=lab23 Z h0.n iR (slIds wf) (slIds we) i)∧Ext h0 h∧ExtX (slIds wf) h8 h)∧∃ b5 b6 b7,vs'=[.agg [vf,ve,.int .i64 T.self,.int .i64 T.next,.int .i64 T.used,.int .u8 T.over,.int .i64 T.trap,.int .i64 T.role,vs],.ptr iR 0 0 9,.ptr iA 0 0 9,.int .i64 (.ofNat j),.int .i64 (.ofNat lf.length),b5,b6,b7]) lf.length ⟨lf,lab23 Z h0.n iR (slIds wf) (slIds we),⟨hwf,lfl,fun i _ _ h=>by omega,fun i a b _ h1 h2=>sf8 i a b h1 h2,fun _ _=>rfl,E8,ExtX.refl _ _⟩,_,_,_,rfl⟩ ?_
 clear hwf hAk rwf
 rintro j vs' h hj ⟨l,K,⟨hw,el,hFd,hFt,hK,hE0,hE⟩,b5,b6,b7,rfl⟩
 have niA:iA∉slIds wf:=fun e=>by have:=nwf iA e;omega
 have hA:=hA8.ext hE niA
 have rw1:=hw.rs
 have nhE:=hE.1
 have hK2:∀ i∈slIds wf,K i=2:=fun i hi=>by rw [hK i (lwf i hi)];unfold lab23;rw [if_pos hi]
 repeat' (first|refine w_seq ?_|refine w_reg ?_|refine w_e ?_|refine w_lssN rfl rfl (fun hc=>?_) (fun hc=>?_)|refine w_cond_t rfl ?_|refine w_cond_f rfl ?_|refine w_skip ?_|refine w_exit rfl ?_)
 ·have hjl:j<lf.length:=by assumption
  have hjw:j<l.length:=by omega
  have hjF:j<T.frames.length:=by omega
  have hg:T.frames[j]? = some T.frames[j]:=List.getElem?_eq_getElem hjF
  obtain ⟨v,s,lv,lst,e,⟨r1,z1⟩,y1,⟨r2,z2⟩,y2,v1,v2⟩:=hFt j l[j] T.frames[j] (Nat.le_refl _) (List.getElem?_eq_getElem hjw) hg
  have lv1:=y1.len
  have lv2:=y2.len
  generalize hFj:T.frames[j]=F at *
  refine w_block ?_
  repeat' (first|refine w_seq ?_|refine w_reg ?_|refine w_e ?_|refine w_rf rfl (by assumption) (by rfl) (by rfl) (by rfl) ?_|refine w_opk rfl rfl ?_)
  refine w_iadrS rfl rfl rw1 hjw ?_
  have hS:=slot_at rw1 hjw
  rw [e] at hS
  repeat' (first|refine w_reg ?_|refine w_e ?_|refine w_opk rfl rfl ?_)
  refine w_nilck rfl hS ?_
  refine w_fadr rfl hS rfl fun hS1=>?_
  refine w_load1 rfl hS1 rfl ?_
  repeat' (first|refine w_opk rfl rfl ?_)
  refine w_nilck rfl hS ?_
  refine w_fadr rfl hS rfl fun hS2=>?_
  refine w_load1 (c:=[]) rfl hS2 rfl ?_
  refine w_call rfl ((cloneVal_ok hO.c1 r1 (by omega)).mono fun cv h9 ⟨hcv,hE9,ncv⟩=>?_)
  have n9:=hE9.1
  have lcv:=hcv.rs.lt
  replace hw:=hw.ext0 hE9
  have hS9:=slot_at hw.rs hjw
  rw [e] at hS9
  refine w_chk1 rfl rfl (hS9.fadr (d:=3) (by simp)) (V.beq_refl _) ?_
  refine w_call rfl ((cloneVal_ok hO.c1 (r2.ext0 hE9) (by omega)).mono fun cs h10 ⟨hcs,hE10,ncs⟩=>?_)
  have n10:=hE10.1
  have lw:=rw1.lt
  replace hw:=hw.ext0 hE10
  replace hcv:=hcv.ext0 hE10
  have lcs:=hcs.rs.lt
  have hS10:=slot_at hw.rs hjw
  rw [e] at hS10
  have o4:=hcv.rs.one
  have o5:=hcs.rs.one
  refine w_nilck rfl hS10 ?_
  refine w_fadr rfl hS10 rfl fun _=>?_
  refine w_storeS rfl rfl hw hjw (by rw [V.cells1 o4];rfl) (by decide) (by rw [V.cells1 o4];simp only [allOne,o4]) fun h11 hw11 hE11 hn11=>?_
  rw [V.cells1 o4,e] at hw11
  replace hw11:Ow h11 4 wf (l.set j [.int .i64 (.ofNat F.fn),.int .i64 (.ofNat F.at_),cv,s]):=hw11
  have hjw2:j<(l.set j [.int .i64 (.ofNat F.fn),.int .i64 (.ofNat F.at_),cv,s]).length:=by simpa using hjw
  have hS11:=slot_at hw11.rs hjw2
  rw [List.getElem_set_self] at hS11
  refine w_nilck rfl hS11 ?_
  refine w_fadr rfl hS11 rfl fun _=>?_
  refine w_storeS rfl rfl hw11 hjw2 (by rw [V.cells1 o5];rfl) (by decide) (by rw [V.cells1 o5];simp only [allOne,o5]) fun h12 hw12 hE12 hn12=>?_
  rw [V.cells1 o5,List.getElem_set_self,List.set_set] at hw12
  replace hw12:Ow h12 4 wf (l.set j [.int .i64 (.ofNat F.fn),.int .i64 (.ofNat F.at_),cv,cs]):=hw12
  have hEE:=hE11.trans hE12
  have hT:=hE9.trans hE10
  have hTE:ExtX (slIds wf) h h12:=(hT.mono (by simp)).trans hEE
  have hE0':Ext h0 h12:=(hE0.trans hT).step hEE fun i hi=>by have:=nwf i hi;exact .inr (by omega)
  have hE':ExtX (slIds wf) h8 h12:=hE.trans hTE
  have hTz:∀ i∈slIds wf,¬ Z i:=fun i hi hq=>by have:=nwf i hi;have:=hzn i hq;omega
  repeat' (first|refine w_reg ?_|refine w_e ?_|refine w_addN rfl rfl (by omega) ?_|refine w_opk rfl rfl ?_)
  refine ⟨hjl,_,fun i=>if i<h.n then K i else if i∈slIds cv then 2 * j+4 else if i∈slIds cs then 2 * j+5 else 0,⟨hw12,by rw [List.length_set];exact el,fun i a b hi h1 h2=>?_,fun i a b hi h1 h2=>?_,fun i hi=>?_,hE0',hE'⟩,_,_,_,rfl⟩
  ·by_cases hij:i=j
   ·subst hij
    rw [List.getElem?_set_self hjw] at h1
    rw [hg] at h2
    cases h1
    cases h2
    have hdv:∀ q∈slIds cv,¬ q<h.n:=fun q hq=>by have:=ncv q hq;omega
    have hds2:∀ q∈slIds cs,¬ q<h.n∧q∉slIds cv:=fun q hq=>⟨by have:=ncs q hq;omega,fun hm=>by have:=ncs q hq;have:=lcv q hm;omega⟩
    have hz:∀ q,Z q→(if q<h.n then K q else if q∈slIds cv then 2 * i+4 else if q∈slIds cs then 2 * i+5 else 0)=0:=fun q hqz=>by
     have hq:=hzn q hqz
     have h6:=hE0.1
     rw [if_pos (by omega),hK q (by omega)]
     unfold lab23
     rw [if_neg (fun hm=>by have:=nwf q hm;omega),if_neg (fun hm=>by have:=nwe q hm;omega),if_neg (fun hh=>by rcases hh with hh | hh;omega;exact hh.1 hqz)]
    refine ⟨cv,cs,lv,lst,rfl,hcv.ext hEE fun q h1 h2=>hdv q h1 (lw q h2),y1.ext hTE (fun q hq hm=>hTz q hm hq) fun q hq _=>hz q hq,hcs.ext hEE fun q h1 h2=>(hds2 q h1).1 (lw q h2),y2.ext hTE (fun q hq hm=>hTz q hm hq) fun q hq _=>hz q hq,fun q hq=>?_,fun q hq=>?_⟩
    ·show (if q<h.n then K q else if q∈slIds cv then 2 * i+4 else if q∈slIds cs then 2 * i+5 else 0)=_
     rw [if_neg (hdv q hq),if_pos hq]
    ·show (if q<h.n then K q else if q∈slIds cv then 2 * i+4 else if q∈slIds cs then 2 * i+5 else 0)=_
     rw [if_neg (hds2 q hq).1,if_neg (hds2 q hq).2,if_pos hq]
   ·rw [List.getElem?_set_ne (Ne.symm hij)] at h1
    refine (hFd i a b (by omega) h1 h2).ext hTE (fun q hq=>by have:=hK2 q hq;omega) fun q hq=>by
     show (if q<h.n then K q else _)=K q
     rw [if_pos hq]
  ·rw [List.getElem?_set_ne (by omega)] at h1
   exact (hFt i a b (by omega) h1 h2).ext hTE (fun q hq hm=>hTz q hm hq) fun _ q _=>q
  ·show (if i<h.n then K i else _)=_
   rw [if_pos (by omega)]
   exact hK i hi
 ·have hs9:allOne [wf,we,.int .i64 T.self,.int .i64 T.next,.int .i64 T.used,.int .u8 T.over,.int .i64 T.trap,.int .i64 T.role,ws]=true:=by
   simp only [allOne,o1,o2,o3];rfl
  refine w_loadA rfl (hA.at rfl) rfl ?_
  have hR':=hR.ext hE (fun e=>by have:=nwf iR e;omega)
  refine w_store rfl rfl hR' rfl hs9 (by decide) (by simp) fun h9 hR9 hE9 hn9=>?_
  replace hR9:Own h9 iR [wf,we,.int .i64 T.self,.int .i64 T.next,.int .i64 T.used,.int .u8 T.over,.int .i64 T.trap,.int .i64 T.role,ws]:=hR9
  have E9:Ext h0 h9:=hE0.step hE9 fun i hi=>by simp at hi;exact .inr (by omega)
  have hw9:=hw.ext hE9 (fun i hi=>by have:=nwf i hi;simp;omega)
  have hws9:=(hws.ext hE (fun i h1 h2=>by have:=lws i h1;have:=nwf i h2;omega)).ext hE9 (fun i hi=>by have:=nws i hi;simp;omega)
  have hwe9:=(hwe.ext hE (fun i h1 h2=>by have:=lwe i h1;have:=nwf i h2;omega)).ext hE9 (fun i hi=>by have:=nwe i hi;simp;omega)
  have hE89:ExtX (iR :: slIds wf) h8 h9:=(hE.mono (fun i hi=>List.mem_cons_of_mem _ hi)).trans (hE9.mono (fun i hi=>by simp at hi;subst hi;exact List.mem_cons_self ..))
  have hzz:∀ q,Z q→q∉iR :: slIds wf:=fun q hqz hm=>by
   have hq:=hzn q hqz
   rcases List.mem_cons.1 hm with e | e
   ·omega
   ·have:=nwf q e;omega
  have hK0:∀ q,Z q→K q=0:=fun q hqz=>by
   have hq:=hzn q hqz
   rw [hK q (by omega)]
   unfold lab23
   rw [if_neg (fun hm=>by have:=nwf q hm;omega),if_neg (fun hm=>by have:=nwe q hm;omega),if_neg (fun hh=>by rcases hh with hh | hh;omega;exact hh.1 hqz)]
  repeat' (first|refine w_e ?_|refine w_ret ?_)
  refine w_rt (l:=[.agg [wf,we,.int .i64 T.self,.int .i64 T.next,.int .i64 T.used,.int .u8 T.over,.int .i64 T.trap,.int .i64 T.role,ws]]) (by
   show resV _ _ [.cell 1 true 9]=_
   have e1:=(hR9.at (hi:=9) rfl).agg (n:=9) (Nat.le_refl 9)
   simp only [resV,nth,e1]
   rfl) ⟨⟨_,K,rfl,⟨wf,we,ws,l,le,ls,rfl,hw9,hK2,⟨el,fun i a b h1 h2=>?_⟩,hwe9,fun i hi=>?_,?_,⟨hws9.rs,fun i hi=>?_⟩,?_⟩,hK0,fun i h1 h2=>?_⟩,E9⟩
  ·have hi:i<j:=by
    have:=(List.getElem?_eq_some_iff.1 h1).1
    omega
   refine (hFd i a b hi h1 h2).ext (S:=[iR]) hE9 (fun q hq=>?_) fun _ _=>rfl
   simp at hq
   subst hq
   rw [hK q (by omega)]
   unfold lab23
   rw [if_neg (fun hm=>by have:=nwf q hm;omega),if_neg (fun hm=>by have:=nwe q hm;omega),if_pos (.inl rfl)]
   omega
  ·rw [hK i (by have:=lwe i hi;omega)]
   unfold lab23
   rw [if_neg (hdw i hi),if_pos hi]
  ·exact ae8.mono fun _ _ _ _ q=>q.ext hE89 hzz fun q hq _=>hK0 q hq
  ·show K i=0
   rw [hK i (by have:=lws i hi;omega)]
   unfold lab23
   rw [if_neg (hds i hi).1,if_neg (hds i hi).2,if_neg (fun hh=>by have:=nws i hi;rcases hh with hh | hh;omega;omega)]
  ·exact vs8.ext hE89 hzz fun q hq _=>hK0 q hq
  ·rw [hK i (by omega)]
   unfold lab23
   rw [if_neg (fun hm=>by have:=nwf i hm;omega),if_neg (fun hm=>by have:=nwe i hm;omega),if_pos (.inr ⟨h1,h2⟩)]
end AmT
namespace AmT
open Go Am
set_option maxRecDepth 100000
set_option maxHeartbeats 4000000
variable {O:CallF}
theorem mac_new {hb h0 h1:Heap} {L:Lab} {x:Nat} {M:ModA} {T:Trn} {m0 m1 m2 m3:V} {tc:List V} (e0:Ext hb h0) (hm:ModR (fun i=>L i=0) h0 [m0,m1,m2,m3] M) (ht:TrnL L h0 tc T) (hL:∀ i,i<hb.n→L i=0) (hx:h0.n≤x) (e1:Ext h0 h1)
  (ho:∀ fr ef st,tc=[fr,ef,.int .i64 T.self,.int .i64 T.next,.int .i64 T.used,.int .u8 T.over,.int .i64 T.trap,.int .i64 T.role,st]→Own h1 x [m0,m1,m2,m3,fr,ef,.int .i64 T.self,.int .i64 T.next,.int .i64 T.used,.int .u8 T.over,.int .i64 T.trap,.int .i64 T.role,st,.nilp]) :
  ∃ L' c,Mac hb L' h1 x M T c∧LabE L h0 L':=by
 obtain ⟨vf,ve,vs,lf,le,ls,e,r1,r2,r3,r4,r5,r6,r7,r8⟩:=ht
 have hLE:LabE L h0 (labN L h0 [x] 1):=labN_old
 have hz:∀ i,L i=0→i<h0.n→labN L h0 [x] 1 i=0:=fun i hi hl=>by rw [hLE i hl];exact hi
 have n0:=e0.1
 refine ⟨labN L h0 [x] 1,⟨m0,m1,m2,m3,vf,ve,vs,.nilp,lf,le,ls⟩,⟨e0.trans e1,by omega,fun i hi=>?_,labN_mem (by simp) (.inl hx),ho _ _ _ e,hm.ext e1 (by simp) fun j hj hl=>?_,r1.ext0 e1,fun i hi=>by rw [hLE i (r1.rs.lt i hi)];exact r2 i hi,r3.ext e1 (by simp) hLE,r4.ext0 e1,fun i hi=>by rw [hLE i (r4.rs.lt i hi)];exact r5 i hi,r6.mono fun _ _ _ _ k=>k.ext e1 (by simp) fun j hj hl=>hz j hj hl,r7.extL e1 (by simp) fun j hj hl=>hz j hj hl,r8.ext e1 (by simp) fun j hj hl=>hz j hj hl,rfl⟩,hLE⟩
 ·rw [hLE i (by omega)];exact hL i hi
 ·rw [hLE j hl];exact hj
theorem _root_.Am.Mac.told {hb h h':Heap} {L:Lab} {x m0 n0:Nat} {Z:Nat→Prop} {M:ModA} {T:Trn} {c:MC} {S:List Nat} (m:Mac hb L h x M T c) (hE:ExtX S h h') (hS:∀ j∈S,L j=1) (hlab:∀ i,¬ Z i→i<m0→L i=1) (hm0:n0≤m0) (hf:T.frames=[]) (hf2:T.effs.length≤2097152∧T.state.length≤2097152):TrnI (fun i=>Z i∨n0≤i) h' [c.fr,c.ef,.int .i64 T.self,.int .i64 T.next,.int .i64 T.used,.int .u8 T.over,.int .i64 T.trap,.int .i64 T.role,c.st] T:=by
 have h0:∀ j∈S,L j≠0:=fun j hj=>by rw [hS j hj];decide
 have hz:∀ j,L j=0→j∉S:=fun j hj hm=>h0 j hm hj
 have hk:∀ j,L j≠1→Z j∨n0≤j:=fun j hj=>by
  by_cases hZ:Z j
  ·exact .inl hZ
  ·refine .inr ?_
   rcases Nat.lt_or_ge j m0 with q | q
   ·exact absurd (hlab j hZ q) hj
   ·omega
 have hl:∀ j,L j=0→j<h.n→Z j∨n0≤j:=fun j hj _=>hk j (by rw [hj];decide)
 have o1:=m.fr.ext hE fun j hj hm=>by have:=m.frl j hj;have:=hS j hm;omega
 have o2:=m.ef.ext hE fun j hj hm=>by have:=m.efl j hj;have:=hS j hm;omega
 refine ⟨c.fr,c.ef,c.st,c.lf,c.le,c.ls,rfl,⟨o1.rs,fun j hj=>hk j (by rw [m.frl j hj];decide)⟩,m.fs.1,fun i cc f h1 h2=>?_,⟨o2.rs,fun j hj=>hk j (by rw [m.efl j hj];decide)⟩,m.es.mono fun _ _ _ _ k=>k.ext hE hz hl,m.st.extL hE hz hl,m.sv.ext hE hz hl,by rw [hf];simp,hf2⟩
 rw [hf] at h2
 cases h2
structure OffRun (O:CallF):Prop where
 it:OffIt O
 cp:OffCopied O
 run:∀ a h,O 18 a h=none
def RunI (Z:Nat→Prop) (hb:Heap) (x:Nat) (M:ModA) (h:Heap) (T:Trn):Prop:=(∃ L c,Mac Heap.empty L h x M T c∧(∀ i,¬ Z i→i<hb.n→L i=1)∧hb.n≤h.n)∧(∃ L c,Mac hb L h x M T c)∧(T.over=0→TrnOk M T)∧FinT T
theorem run_ok (hO:OffRun O) {Z:Nat→Prop} {h0:Heap} {mc tc:List V} {M:ModA} {T:Trn} {n:Int} (hM:ModOk M) (hzn:∀ i,Z i→i<h0.n) (hm:ModR Z h0 mc M) (ht:TrnI Z h0 tc T) (ho:T.over=0) (hT:TrnOk M T) (hef:T.effs.length≤400000) (hn:n≤400000)
  (hR:∀ {h:Heap},Ext h0 h→WPc tab.get O 26 [.agg mc,.agg tc] h (fun r h'=>r=.bool true∧Ext h h')) :
  WPc tab.get O 18 [.agg mc,.agg tc,.int .i64 n] h0 (fun r h'=>∃ c,r=.agg c∧TrnI (fun i=>Z i∨h0.n≤i) h' c (Am.runT M n.toNat T)∧Ext h0 h'):=by
 have hms:=hm.shape
 have hts:=ht.shape
 refine w_fn' (hO.run _ _) rfl rfl (by simp only [c18,initV,nth] <;> rfl) ?_
 refine w_seq (w_reg (w_box rfl hms.1 hms.2 fun iA h1 hA hiA hE1=>?_))
 refine w_box rfl hts.1 hts.2 fun iB h2 hB hiB hE2=>?_
 refine w_alloc fun iR h3 hR3 hiR hE3=>?_
 have E3:=(hE1.trans hE2).trans hE3
 have n1:=hE1.1
 have n2:=hE2.1
 replace hA:Own h3 iA mc:=(hA.ext0 hE2).ext0 hE3
 replace hB:Own h3 iB tc:=hB.ext0 hE3
 have e9:List.take 9 tc=tc:=List.take_of_length_le (by omega)
 have e4:List.take 4 mc=mc:=List.take_of_length_le (by omega)
 have htc:∃ a b s,tc=[a,b,.int .i64 T.self,.int .i64 T.next,.int .i64 T.used,.int .u8 0,.int .i64 T.trap,.int .i64 T.role,s]:=by
  obtain ⟨vf,ve,vs,lf,le,ls,e,_⟩:=ht
  rw [ho] at e
  exact ⟨_,_,_,e⟩
 obtain ⟨ca,cb,cs,etc⟩:=htc
 subst etc
 repeat' (first|refine w_seq ?_|refine w_reg ?_|refine w_e ?_|refine w_rf rfl (by assumption) (by rfl) (by rfl) (by rfl) ?_|refine w_on rfl ?_|refine w_opk rfl rfl ?_)
 refine w_loadA rfl (hA.at hms.1) (by rw [hms.1];rfl) ?_
 rw [e4]
 repeat' (first|refine w_on rfl ?_)
 refine w_loadA rfl (hB.at rfl) rfl ?_
 refine w_on rfl ?_
 refine w_callA [.agg mc,.agg [ca,cb,.int .i64 T.self,.int .i64 T.next,.int .i64 T.used,.int .u8 0,.int .i64 T.trap,.int .i64 T.role,cs]] rfl ((hR E3).mono fun _ h4 ⟨e,hE4⟩=>?_)
 subst e
 have E4:=E3.trans hE4
 have hA4:=hA.ext0 hE4
 have hB4:=hB.ext0 hE4
 have hR4:=hR3.ext0 hE4
 have n04:=E4.1
 repeat' (first|refine w_seq ?_|refine w_reg ?_|refine w_e ?_|refine w_on rfl ?_|refine w_opk rfl rfl ?_|refine w_cond_f rfl ?_|refine w_skip ?_)
 refine w_loadA rfl (hA4.at hms.1) (by rw [hms.1];rfl) ?_
 rw [e4]
 skip
 refine w_loadA rfl (hB4.at rfl) rfl ?_
 have ht4a:TrnI Z h4 [ca,cb,.int .i64 T.self,.int .i64 T.next,.int .i64 T.used,.int .u8 0,.int .i64 T.trap,.int .i64 T.role,cs] T:=ht.ext0 E4
 have ht4:TrnI (fun i=>i<h4.n) h4 [ca,cb,.int .i64 T.self,.int .i64 T.next,.int .i64 T.used,.int .u8 0,.int .i64 T.trap,.int .i64 T.role,cs] T:=ht4a.mono fun j hj _=>by have:=hzn j hj;omega
 refine w_callA [.agg [ca,cb,.int .i64 T.self,.int .i64 T.next,.int .i64 T.used,.int .u8 0,.int .i64 T.trap,.int .i64 T.role,cs]] rfl (((copiedM_ok hO.cp (fun i hi=>by have:=hzn i hi;omega) ht4a).and (copiedM_ok hO.cp (fun i hi=>hi) ht4)).mono fun _ h5 ⟨⟨⟨c',La,e,hLa,hLa0,hLa1⟩,hE5⟩,⟨c'',L,e',hL,hL0,_⟩,_⟩=>?_)
 subst e
 cases e'
 have hLs:=hL.shape
 refine w_chkA (c:=mc) (by rw [e4];rfl) rfl ((hA4.ext0 hE5).at hms.1) (by omega) (V.beqL_refl _) ?_
 obtain ⟨m0,m1,m2,m3,rfl⟩:∃ m0 m1 m2 m3,mc=[m0,m1,m2,m3]:=by
  obtain ⟨a,b,c,d,_,_,_,e,_⟩:=hm
  exact ⟨a,b,c,d,e⟩
 obtain ⟨wf,we,ws,ec⟩:∃ wf we ws,c'=[wf,we,.int .i64 T.self,.int .i64 T.next,.int .i64 T.used,.int .u8 T.over,.int .i64 T.trap,.int .i64 T.role,ws]:=by
  obtain ⟨vf,ve,vs,lf,le,ls,e,_⟩:=hL
  exact ⟨_,_,_,e⟩
 have hmo:allOne [m0,m1,m2,m3]=true:=hms.2
 subst ec
 have hco:allOne [wf,we,.int .i64 T.self,.int .i64 T.next,.int .i64 T.used,.int .u8 T.over,.int .i64 T.trap,.int .i64 T.role,ws]=true:=hLs.2
 obtain ⟨q0,q1,q2,q3⟩:m0.one=true∧m1.one=true∧m2.one=true∧m3.one=true:=by
  obtain ⟨cs,ts,fs,rs,lc,lf,lr,e,r1,r2,r3,r4,r5,r6,r7⟩:=hm
  cases e
  exact ⟨r1.1.one,r3.1.one,r4.1.one,r6.1.one⟩
 obtain ⟨q4,q5,q6⟩:wf.one=true∧we.one=true∧ws.one=true:=by
  obtain ⟨vf,ve,vs,lf,le,ls,e,r1,_,_,r2,_,_,r3,_⟩:=hL
  cases e
  exact ⟨r1.rs.one,r2.rs.one,r3.1.one⟩
 have h14:allOne [m0,m1,m2,m3,wf,we,.int .i64 T.self,.int .i64 T.next,.int .i64 T.used,.int .u8 T.over,.int .i64 T.trap,.int .i64 T.role,ws,.nilp]=true:=by
  simp only [allOne,q0,q1,q2,q3,q4,q5,q6]
  rfl
 skip
 refine w_build [m0,m1,m2,m3,wf,we,.int .i64 T.self,.int .i64 T.next,.int .i64 T.used,.int .u8 T.over,.int .i64 T.trap,.int .i64 T.role,ws,.nilp] rfl (by simp only [fillP,V.cells,allOne,q0,q1,q2,q3,q4,q5,q6];rfl) ?_
 refine w_box rfl rfl h14 fun x h6 hX hix hE6=>?_
 have hm5:ModR (fun i=>L i=0) h5 [m0,m1,m2,m3] M:=hm.ext (E4.trans hE5) (by simp) fun j hj _=>hL0 j (by have:=hzn j hj;omega)
 have hm5a:ModR (fun i=>La i=0) h5 [m0,m1,m2,m3] M:=hm.ext (E4.trans hE5) (by simp) fun j hj _=>hLa0 j hj
 obtain ⟨L6,c6,m6,_⟩:=mac_new hE5 hm5 hL hL0 hix hE6 (fun fr ef st e=>by cases e;exact hX)
 obtain ⟨L6a,c6a,m6a,hLE6⟩:=mac_new (hb:=Heap.empty) ⟨Nat.zero_le _,fun j hj=>absurd hj (Nat.not_lt_zero _)⟩ hm5a hLa (fun i hi=>absurd hi (Nat.not_lt_zero _)) hix hE6 (fun fr ef st e=>by cases e;exact hX)
 have hRl:=hR4.1
 have n45:=hE5.1
 have n56:=hE6.1
 have hr6:∀ i,¬ Z i→i<h4.n→L6a i=1:=fun i h1 h2=>by rw [hLE6 i (by omega)];exact hLa1 i h1 h2
 have hsl:=hT.state_le hM
 clear hA hB hA4 hB4 hR3 hm hm5 hm5a hL hLa ht4 ht4a hE1 hE2 hE3 hX h14 hmo
 repeat' (first|refine w_seq ?_|refine w_reg ?_|refine w_e ?_|refine w_opk rfl rfl ?_)
 refine w_block_cut (fun vs h=>∃ b6 b8 b9 b10 T',vs=[.agg [m0,m1,m2,m3],.agg [ca,cb,.int .i64 T.self,.int .i64 T.next,.int .i64 T.used,.int .u8 0,.int .i64 T.trap,.int .i64 T.role,cs],.int .i64 n,.ptr iR 0 0 9,.ptr iB 0 0 9,.ptr iA 0 0 4,b6,.ptr x 0 0 14,b8,b9,b10]∧RunI Z h4 x M h T'∧T'=Am.runT M n.toNat T∧T'.over≠0∧T'.effs.length≤1000000)
  (w_loop (fun k vs h=>∃ b6 b8 b10 T' j,vs=[.agg [m0,m1,m2,m3],.agg [ca,cb,.int .i64 T.self,.int .i64 T.next,.int .i64 T.used,.int .u8 0,.int .i64 T.trap,.int .i64 T.role,cs],.int .i64 n,.ptr iR 0 0 9,.ptr iB 0 0 9,.ptr iA 0 0 4,b6,.ptr x 0 0 14,b8,.int .i64 (.ofNat j),b10]∧RunI Z h4 x M h T'∧Am.runT M k T'=Am.runT M n.toNat T∧k=n.toNat - j∧T'.effs.length≤400000+j∧j≤400000) ?_ n.toNat _ _
   ⟨_,_,_,T,0,rfl,⟨⟨L6a,c6a,m6a,hr6,by omega⟩,⟨L6,c6,m6⟩,fun _=>hT,fun q=>absurd ho q,hsl⟩,rfl,rfl,by omega,by omega⟩) ?_
 ·rintro k vs h ⟨b6,b8,b10,T',j,rfl,⟨⟨L,c,m,hr1,hrn⟩,⟨Lb,cb',mb⟩,g,fin⟩,hrun,rfl,he,hj⟩
  have hX:Own h x [c.m0,c.m1,c.m2,c.m3,c.fr,c.ef,.int .i64 T'.self,.int .i64 T'.next,.int .i64 T'.used,.int .u8 T'.over,.int .i64 T'.trap,.int .i64 T'.role,c.st,c.fp]:=m.own
  by_cases hov:T'.over=0
  ·have hg:=g hov
   have eo:iEq T'.over (Int.ofNat 0)=true:=by rw [hov];rfl
   repeat' (first|refine w_seq ?_|refine w_reg ?_|refine w_e ?_|refine w_fl rfl (by assumption) (by rfl) (by rfl) (by rfl) ?_|refine w_opk rfl rfl ?_)
   rw [eo]
   repeat' (first|refine w_seq ?_|refine w_cond_t rfl ?_|refine w_skip ?_)
   refine w_block ?_
   repeat' (first|refine w_seq ?_|refine w_reg ?_|refine w_e ?_|refine w_opk rfl rfl ?_)
   by_cases hge:n≤(j:Int)
   ·have hk0:n.toNat - j=0:=by omega
    rw [show iNot (iLt (Int.ofNat j) n)=true from by rw [iLt_eq,show decide (Int.ofNat j<n)=false from decide_eq_false (by show ¬ (j:Int)<n;omega)];rfl]
    rw [hk0] at hrun
    have er:Am.runT M 0 T'=trapT T' 8:=by unfold Am.runT;rw [if_pos hov]
    repeat' (first|refine w_seq ?_|refine w_reg ?_|refine w_opk rfl rfl ?_|refine w_cond_t rfl ?_)
    refine w_callA [.ptr x 0 0 14,.int .i64 (.ofNat 8)] rfl (((trapM_ok hO.it.on.toOffDo.toOffMc m hg.nx (by omega)).and (trapM_ok hO.it.on.toOffDo.toOffMc mb hg.nx (by omega))).mono fun _ h7 ⟨⟨L7,c7,q1,q2,q3⟩,⟨L8,c8,p1,p2,p3⟩⟩=>?_)
    repeat' (first|refine w_e ?_|refine w_exit rfl ?_)
    exact ⟨_,_,_,_,trapT T' 8,rfl,⟨⟨L7,c7,q1,fun i h1 h2=>by rw [q2 i (by omega)];exact hr1 i h1 h2,by have:=q3.n;omega⟩,⟨L8,c8,p1⟩,fun q=>absurd q trapT_over,fun _=>rfl,fin.2⟩,by rw [← er,hrun],trapT_over,by show (0:Nat)≤_;omega⟩
   ·rw [show iNot (iLt (Int.ofNat j) n)=false from by rw [iLt_eq,show decide (Int.ofNat j<n)=true from decide_eq_true (by show (j:Int)<n;omega)];rfl]
    have hjn:j+1≤n.toNat:=by omega
    obtain ⟨k',hk'⟩:∃ k',n.toNat - j=k'+1:=⟨n.toNat - j - 1,by omega⟩
    have er:Am.runT M (k'+1) T'=Am.runT M k' (stepT M T'):=by
     show (if T'.over=0 then Am.runT M k' (stepT M T') else T')=_
     rw [if_pos hov]
    repeat' (first|refine w_reg ?_|refine w_opk rfl rfl ?_|refine w_cond_f rfl ?_|refine w_skip ?_)
    refine w_callA [.ptr x 0 0 14] rfl (((step_all hO.it hM hg (by omega) m).and (step_all hO.it hM hg (by omega) mb)).mono fun _ h7 ⟨⟨L7,c7,q1,q2,q3⟩,⟨L8,c8,p1,p2,p3⟩⟩=>?_)
    repeat' (first|refine w_reg ?_|refine w_e ?_|refine w_addN rfl rfl (by omega) ?_|refine w_opk rfl rfl ?_)
    have hs:=stepT_eff (M:=M) (T:=T')
    refine ⟨k',by omega,_,_,_,stepT M T',j+1,rfl,⟨⟨L7,c7,q1,fun i h1 h2=>by rw [q2 i (by omega)];exact hr1 i h1 h2,by have:=q3.n;omega⟩,⟨L8,c8,p1⟩,fun q=>stepT_ok hM hg q,stepT_fin hM hg hov⟩,by rw [← er,← hk',hrun],by omega,by omega,by omega⟩
  ·have eo:iEq T'.over (Int.ofNat 0)=false:=iEq_f (n:=0) hov
   have er:Am.runT M (n.toNat - j) T'=T':=runT_over hov
   repeat' (first|refine w_seq ?_|refine w_reg ?_|refine w_e ?_|refine w_fl rfl (by assumption) (by rfl) (by rfl) (by rfl) ?_|refine w_opk rfl rfl ?_)
   rw [eo]
   repeat' (first|refine w_cond_f rfl ?_|refine w_exit rfl ?_)
   exact ⟨_,_,_,_,T',rfl,⟨⟨L,c,m,hr1,hrn⟩,⟨Lb,cb',mb⟩,g,fin⟩,by rw [← hrun,er],hov,by omega⟩
 ·rintro vs h ⟨b6,b8,b9,b10,T',rfl,⟨⟨L,c,m,hr1,hrn⟩,⟨Lb,cb',mb⟩,g,fin⟩,hTT,hov,hel⟩
  rw [← hTT]
  have hX:Own h x [c.m0,c.m1,c.m2,c.m3,c.fr,c.ef,.int .i64 T'.self,.int .i64 T'.next,.int .i64 T'.used,.int .u8 T'.over,.int .i64 T'.trap,.int .i64 T'.role,c.st,c.fp]:=m.own
  have hRh:=hR4.ext0 mb.e
  have k1:=m.fr.rs.one
  have k2:=m.ef.rs.one
  have k3:=m.st.1.one
  repeat' (first|refine w_seq ?_|refine w_reg ?_|refine w_opk rfl rfl ?_)
  refine w_loadA (n:=9) rfl (show At h (.ptr x (0+4) 0 14) _ from (hX.at (hi:=14) rfl).fadr (d:=4) (by simp)) rfl ?_
  refine w_store rfl rfl hRh rfl (by show allOne [c.fr,c.ef,.int .i64 T'.self,.int .i64 T'.next,.int .i64 T'.used,.int .u8 T'.over,.int .i64 T'.trap,.int .i64 T'.role,c.st]=true;simp only [allOne,k1,k2,k3];rfl) (by decide) (by simp) fun h9 hR9 hE9 hn9=>?_
  replace hR9:Own h9 iR [c.fr,c.ef,.int .i64 T'.self,.int .i64 T'.next,.int .i64 T'.used,.int .u8 T'.over,.int .i64 T'.trap,.int .i64 T'.role,c.st]:=hR9
  repeat' (first|refine w_e ?_|refine w_ret ?_)
  refine w_rt (l:=[.agg [c.fr,c.ef,.int .i64 T'.self,.int .i64 T'.next,.int .i64 T'.used,.int .u8 T'.over,.int .i64 T'.trap,.int .i64 T'.role,c.st]]) (by
   show resV _ _ [.cell 3 true 9]=_
   have e1:=(hR9.at (hi:=9) rfl).agg (n:=9) (Nat.le_refl 9)
   simp only [resV,nth,e1]
   rfl) ⟨_,rfl,m.told hE9 (fun j hj=>by simp at hj;subst hj;exact hr1 _ (fun hh=>by have:=hzn _ hh;omega) (by omega)) hr1 n04 (fin.1 hov) (by have:=fin.2;omega),E4.trans (mb.e) |>.step hE9 fun jd hjd=>by simp at hjd;exact .inr (by omega)⟩
end AmT
namespace AmT
open Go Am
set_option maxRecDepth 100000
set_option maxHeartbeats 4000000
variable {O:CallF}
structure OffRt (O:CallF):Prop extends OffVR O where
 rr1:∀ a h,O 127 a h=none
 ix:∀ a h,O 191 a h=none
 cf:∀ a h,O 126 a h=none
 r:∀ a h,O 55 a h=none
theorem right1_ok (hO:OffRt O) {Z:Nat→Prop} {h0:Heap} {a:Val} {c:List V} (hv:VaR Z h0 a c) (hz:∀ i,Z i→i<h0.n) (ht:RngV a) :
  WPc tab.get O 127 [.agg c] h0 (fun v h'=>(∃ b,v=.bool b∧(b=true↔¬ cVal.ok a))∧Ext h0 h'):=by
 refine w_fn' (hO.rr1 _ _) rfl rfl (by simp only [c127,initV,nth] <;> rfl) ?_
 have hs:=hv.shape
 refine w_seq (w_reg (w_box rfl hs.1 hs.2 fun iV h1 hV hiV hE1=>?_))
 replace hV:Own h1 iV c:=hV
 repeat' (first|refine w_seq ?_|refine w_reg ?_|refine w_e ?_|refine w_opk rfl rfl ?_)
 refine w_loadA rfl (hV.at hs.1) (by rw [hs.1];rfl) ?_
 rw [show List.take 4 c=c from List.take_of_length_le (by omega)]
 refine w_callA [.agg c] rfl ((vright_ok hO.toOffVR (hv.ext0 hE1) (fun i hi=>by have:=hz i hi;have:=hE1.1;omega) ht).mono fun v h2 ⟨⟨b,e1,e3⟩,hE2⟩=>?_)
 subst e1
 repeat' (first|refine w_e ?_|refine w_opk rfl rfl ?_|refine w_ret ?_|refine w_rt rfl ?_)
 exact ⟨⟨_,rfl,by rw [← e3];cases b <;> simp⟩,hE1.trans hE2⟩
theorem take_ok1 {l:List Val} {j:Nat} (h:∀ a∈l.take j,cVal.ok a) (hj:j<l.length) (k:cVal.ok l[j]):∀ a∈l.take (j+1),cVal.ok a:=fun a ha=>by
 rw [List.take_succ_eq_append_getElem hj] at ha
 rcases List.mem_append.1 ha with ha | ha
 ·exact h a ha
 ·rw [List.mem_singleton.1 ha];exact k
theorem index_ok (hO:OffRt O) {Z:Nat→Prop} {h0:Heap} {v:V} {lc:List (List V)} {l:List Val} (hv:RS h0 4 v lc) (hl:VasR Z h0 l lc) (hz:∀ i,Z i→i<h0.n) (ht:RngVl l) (hb:l.length≤2097152) :
  WPc tab.get O 191 [v,.fn 127 [] []] h0 (fun r h'=>(∃ k:Int,r=.int .i64 k∧((k = -1∧∀ a∈l,cVal.ok a)∨(0≤k∧¬ ∀ a∈l,cVal.ok a)))∧Ext h0 h'):=by
 have hll:=hl.len
 refine w_fn' (hO.ix _ _) rfl rfl (by simp only [c191,initV,nth] <;> rfl) ?_
 repeat' (first|refine w_seq ?_|refine w_reg ?_|refine w_e ?_|refine w_len rfl (by assumption) ?_|refine w_opk rfl rfl ?_)
 refine w_count (fun j vs h=>Ext h0 h∧(∀ a∈l.take j,cVal.ok a)∧∃ b5 b6 b7,vs=[v,.fn 127 [] [],.int .i64 0,.int .i64 (.ofNat j),.int .i64 (.ofNat lc.length),b5,b6,b7]) lc.length ⟨ExtX.refl _ _,by simp,_,_,_,rfl⟩ ?_
 rintro j vs h hj ⟨hE,hd,b5,b6,b7,rfl⟩
 have r':=hv.ext0 hE
 have l':=hl.ext0 hE
 repeat' (first|refine w_seq ?_|refine w_reg ?_|refine w_e ?_|refine w_lssN rfl rfl (fun hc=>?_) (fun hc=>?_)|refine w_opk rfl rfl ?_|refine w_cond_t rfl ?_|refine w_cond_f rfl ?_|refine w_skip ?_|refine w_exit rfl ?_|refine w_ret ?_|refine w_rt rfl ?_)
 ·have hje:j<lc.length:=by assumption
  have hjl:j<l.length:=by omega
  have va:=l'.get hjl hje
  have hsh:=va.shape
  refine w_block ?_
  repeat' (first|refine w_seq ?_|refine w_reg ?_|refine w_e ?_|refine w_opk rfl rfl ?_)
  refine w_iadrS rfl rfl r' hje ?_
  refine w_loadA rfl (slot_at r' hje) (by rw [hsh.1];rfl) ?_
  rw [show List.take 4 lc[j]=lc[j] from List.take_of_length_le (by omega)]
  refine w_callv rfl rfl ((right1_ok hO va (fun i hi=>by have:=hz i hi;have:=hE.1;omega) (ht.mem _ (List.getElem_mem hjl))).mono fun v' h5 ⟨⟨b,e1,e3⟩,e2⟩=>?_)
  subst e1
  cases b
  ·have hok:cVal.ok l[j]:=Classical.byContradiction fun hn=>absurd (e3.2 hn) (by decide)
   repeat' (first|refine w_reg ?_|refine w_e ?_|refine w_addN rfl rfl (by omega) ?_|refine w_opk rfl rfl ?_|refine w_cond_f rfl ?_|refine w_skip ?_)
   exact ⟨hje,hE.trans e2,take_ok1 hd hjl hok,_,_,_,rfl⟩
  ·repeat' (first|refine w_seq ?_|refine w_reg ?_|refine w_e ?_|refine w_opk rfl rfl ?_|refine w_cond_t rfl ?_|refine w_ret ?_|refine w_rt rfl ?_)
   exact ⟨⟨_,rfl,.inr ⟨Int.natCast_nonneg j,fun hall=>e3.1 rfl (hall _ (List.getElem_mem hjl))⟩⟩,hE.trans e2⟩
 ·have ej:j=l.length:=by omega
  rw [ej,List.take_length] at hd
  exact ⟨⟨_,rfl,.inl ⟨rfl,hd⟩⟩,hE⟩
theorem right_ok (hO:OffRt O) {Z:Nat→Prop} {h0:Heap} {v:V} {lc:List (List V)} {l:List Val} (hv:RS h0 4 v lc) (hl:VasR Z h0 l lc) (hz:∀ i,Z i→i<h0.n) (ht:RngVl l) (hb:l.length≤2097152) :
  WPc tab.get O 55 [v] h0 (fun r h'=>(∃ b,r=.bool b∧(b=true↔∀ a∈l,cVal.ok a))∧Ext h0 h'):=by
 refine w_fn' (hO.r _ _) rfl rfl (by simp only [c55,initV,nth] <;> rfl) ?_
 repeat' (first|refine w_seq ?_|refine w_reg ?_|refine w_e ?_|refine w_opk rfl rfl ?_)
 refine w_callA [v,.fn 127 [] []] rfl (WPc.mono (Q:=fun r h'=>(∃ b,r=.bool b∧(b=true↔¬ ∀ a∈l,cVal.ok a))∧Ext h0 h') ?_ fun v' h2 ⟨⟨b,e1,e3⟩,hE2⟩=>?_)
 ·refine w_fn' (hO.cf _ _) rfl rfl (by simp only [c126,initV,nth] <;> rfl) ?_
  repeat' (first|refine w_seq ?_|refine w_reg ?_|refine w_e ?_|refine w_opk rfl rfl ?_)
  refine w_callA [v,.fn 127 [] []] rfl ((index_ok hO hv hl hz ht hb).mono fun v' h2 ⟨⟨k,e1,e3⟩,hE2⟩=>?_)
  subst e1
  rcases e3 with ⟨rfl,e3⟩ | ⟨hk,e3⟩
  ·repeat' (first|refine w_e ?_|refine w_opk rfl rfl ?_|refine w_ret ?_|refine w_rt rfl ?_)
   exact ⟨⟨false,rfl,fun h=>absurd h (by decide),fun h=>absurd e3 h⟩,hE2⟩
  ·obtain ⟨n,rfl⟩:∃ n:Nat,k=Int.ofNat n:=⟨k.toNat,(Int.toNat_of_nonneg hk).symm⟩
   repeat' (first|refine w_e ?_|refine w_opk rfl rfl ?_|refine w_ret ?_|refine w_rt rfl ?_)
   exact ⟨⟨true,by cases n <;> rfl,fun _=>e3,fun _=>rfl⟩,hE2⟩
 ·subst e1
  repeat' (first|refine w_e ?_|refine w_opk rfl rfl ?_|refine w_ret ?_|refine w_rt rfl ?_)
  exact ⟨⟨_,rfl,by cases b <;> simp at e3 ⊢ <;> assumption⟩,hE2⟩
end AmT
namespace AmT
open Go Am
set_option maxRecDepth 100000
set_option maxHeartbeats 4000000
variable {O:CallF}
theorem onsI_snoc {i j:Nat} {l:List OnA} {acc:List (Int×V)} (hj:j<l.length):onsI i (l.take (j+1)) acc=putI l[j].fn (.int .i64 (.ofNat i)) (onsI i (l.take j) acc):=by
 unfold onsI
 rw [List.take_succ_eq_append_getElem hj,List.foldl_append]
 rfl
theorem rolesU_succ {l:List PartA} {j:Nat} (hj:j<l.length):rolesU l (j+1)=onsI j l[j].on (rolesU l j):=by
 show onsI j (((l[j]?).map fun r=>r.on).getD []) (rolesU l j)=_
 rw [List.getElem?_eq_getElem hj]
 rfl
theorem roles_ok (hO:∀ a h,O 68 a h=none) {Z:Nat→Prop} {h0:Heap} {mc:List V} {M:ModA} (hm:ModR Z h0 mc M) (hz:∀ i,Z i→i<h0.n) (hl:M.roles.length≤2097152) (hlo:∀ r∈M.roles,r.on.length≤2097152) :
  WPc tab.get O 68 [.agg mc] h0 (fun v h'=>(∃ id,v=.map id∧OwM h' id .i64 (rolesU M.roles M.roles.length))∧Ext h0 h'):=by
 have hs:=hm.shape
 refine w_fn' (hO _ _) rfl rfl (by simp only [c68,initV,nth] <;> rfl) ?_
 refine w_seq (w_reg (w_box rfl hs.1 hs.2 fun iA h1 hA hiA hE1=>?_))
 obtain ⟨cs,ts,fns,rs,lc,lfn,lr,rfl,r1,v1,r2,r3,a3,r4,a4⟩:=hm
 replace hA:Own h1 iA [cs,ts,fns,rs]:=hA
 have hlr:=a4.1
 repeat' (first|refine w_seq ?_|refine w_reg ?_|refine w_e ?_|refine w_opk rfl rfl ?_)
 refine w_mkI .i64 fun iM h2 hM2 hiM hE2=>?_
 have E2:=hE1.trans hE2
 have hA2:=hA.ext0 hE2
 have rr:=r4.1.ext0 E2
 have n1:=hE1.1
 have hAl:=hA.1
 repeat' (first|refine w_seq ?_|refine w_reg ?_|refine w_e ?_|refine w_rf rfl (by assumption) (by rfl) (by rfl) (by rfl) ?_|refine w_len rfl (by assumption) ?_|refine w_opk rfl rfl ?_)
 refine w_count (fun j vs h=>∃ b5 b7 b8 b9 b10 b11 b13 b14,(OwM h iM .i64 (rolesU M.roles j)∧ExtX [iM] h2 h)∧vs=[.agg [cs,ts,fns,rs],.nilm,.ptr iA 0 0 4,.int .i64 (.ofNat j),.int .i64 (.ofNat lr.length),b5,rs,b7,b8,b9,b10,b11,.map iM,b13,b14]) lr.length ⟨_,_,_,_,_,_,_,_,⟨hM2,ExtX.refl _ _⟩,rfl⟩ ?_
 rintro j vs h hj ⟨b5,b7,b8,b9,b10,b11,b13,b14,⟨hMj,hE⟩,rfl⟩
 have rr':RS h 3 rs lr:=(r4.1.ext0 E2).ext hE (fun id off len ver e f hv hm=>by
  have h1:=r4.2 id (by rw [hv];simp [slIds])
  have:=hz _ h1
  simp at hm
  omega)
 repeat' (first|refine w_seq ?_|refine w_reg ?_|refine w_e ?_|refine w_lssN rfl rfl (fun hc=>?_) (fun hc=>?_)|refine w_opk rfl rfl ?_|refine w_cond_t rfl ?_|refine w_cond_f rfl ?_|refine w_skip ?_|refine w_exit rfl ?_|refine w_ret ?_|refine w_rt rfl ?_)
 ·have hj1:j<lr.length:=by assumption
  have hj2:j<M.roles.length:=by omega
  obtain ⟨ov,epr,rov⟩:=a4.get hj1 hj2
  have hlon:=hlo _ (List.getElem_mem hj2)
  have hS:=slot_at rr' hj1
  rw [epr] at hS
  have hov1:=rov.1.one
  refine w_block ?_
  repeat' (first|refine w_seq ?_|refine w_reg ?_|refine w_opk rfl rfl ?_)
  refine w_iadrS rfl rfl rr' hj1 ?_
  refine w_loadA rfl hS rfl ?_
  refine w_alloc fun iP h3 hP hiP hE3=>?_
  repeat' (first|refine w_opk rfl rfl ?_)
  refine w_store rfl rfl hP rfl (by show allOne [.str M.roles[j].name,.int .i64 M.roles[j].params,ov]=true;simp only [allOne,hov1];rfl) (by decide) (by simp) fun h4 hP4 hE4 hn4=>?_
  replace hP4:Own h4 iP [.str M.roles[j].name,.int .i64 M.roles[j].params,ov]:=hP4
  have E4:Ext h h4:=hE3.step hE4 fun q hq=>by simp at hq;exact .inr (by omega)
  have hM4:=hMj.ext0 E4
  have hMl:=hMj.1
  have rov4:RS h4 3 ov (M.roles[j].on.map onC):=((rov.1.ext0 E2).ext hE (fun id off len ver e f hv hm=>by
   have h1:=rov.2 id (by rw [hv];simp [slIds])
   have:=hz _ h1
   simp at hm
   omega)).ext0 E4
  have hmap:(M.roles[j].on.map onC).length=M.roles[j].on.length:=List.length_map ..
  have nh:=hE.1
  repeat' (first|refine w_seq ?_|refine w_reg ?_|refine w_e ?_|refine w_rf rfl (by assumption) (by rfl) (by rfl) (by rfl) ?_|refine w_len rfl (by assumption) ?_|refine w_opk rfl rfl ?_)
  refine w_count (fun k vs h'=>∃ b10 b13,(OwM h' iM .i64 (onsI j (M.roles[j].on.take k) (rolesU M.roles j))∧ExtX [iM] h4 h')∧vs=[.agg [cs,ts,fns,rs],.nilm,.ptr iA 0 0 4,.int .i64 (.ofNat j),.int .i64 (.ofNat lr.length),.bool true,rs,.ptr iP 0 0 3,.int .i64 (.ofNat k),.int .i64 (.ofNat (M.roles[j].on.map onC).length),b10,ov,.map iM,b13,.int .i64 (.ofNat j)]) (M.roles[j].on.map onC).length ⟨_,_,⟨by simpa [onsI] using hM4,ExtX.refl _ _⟩,rfl⟩ ?_
  rintro k vs h' hk ⟨b10,b13,⟨hMk,hEk⟩,rfl⟩
  have rov':RS h' 3 ov (M.roles[j].on.map onC):=rov4.ext hEk (fun id off len ver e f hv hm=>by
   have h1:=rov.2 id (by rw [hv];simp [slIds])
   have:=hz _ h1
   simp at hm
   omega)
  repeat' (first|refine w_seq ?_|refine w_reg ?_|refine w_e ?_|refine w_lssN rfl rfl (fun hc=>?_) (fun hc=>?_)|refine w_addN rfl rfl (by omega) ?_|refine w_opk rfl rfl ?_|refine w_cond_t rfl ?_|refine w_cond_f rfl ?_|refine w_skip ?_|refine w_exit rfl ?_)
  ·have hk1:k<(M.roles[j].on.map onC).length:=by assumption
   have hk2:k<M.roles[j].on.length:=by omega
   have hS':=slot_at rov' hk1
   rw [List.getElem_map] at hS'
   refine w_block ?_
   repeat' (first|refine w_seq ?_|refine w_reg ?_)
   refine w_iadrS rfl rfl rov' hk1 ?_
   refine w_loadA rfl hS' rfl ?_
   refine w_alloc fun iO h5 hOo hiO hE5=>?_
   skip
   refine w_store rfl rfl hOo rfl rfl (by decide) (by simp) fun h6 hO6 hE6 hn6=>?_
   replace hO6:Own h6 iO [.str M.roles[j].on[k].tag,.int .i64 M.roles[j].on[k].params,.int .i64 M.roles[j].on[k].fn]:=hO6
   have E6:Ext h' h6:=hE5.step hE6 fun q hq=>by simp at hq;exact .inr (by omega)
   have hMk6:=hMk.ext0 E6
   repeat' (first|refine w_reg ?_|refine w_e ?_|refine w_rf rfl (by assumption) (by rfl) (by rfl) (by rfl) ?_|refine w_opk rfl rfl ?_)
   refine w_mputI rfl rfl rfl hMk6 fun h7 hM7 hE7 n7=>?_
   rw [← onsI_snoc hk2] at hM7
   repeat' (first|refine w_reg ?_|refine w_e ?_|refine w_addN rfl rfl (by omega) ?_|refine w_opk rfl rfl ?_)
   exact ⟨hk1,_,_,⟨hM7,(hEk.trans (E6.mono (by simp))).trans hE7⟩,rfl⟩
  ·have hkk:k=M.roles[j].on.length:=by omega
   rw [hkk,List.take_length,← rolesU_succ hj2] at hMk
   exact ⟨hj1,_,_,_,_,_,_,_,_,⟨hMk,(hE.trans (E4.mono (by simp))).trans hEk⟩,rfl⟩
 ·have hjj:j=M.roles.length:=by omega
  rw [hjj] at hMj
  exact ⟨⟨iM,rfl,hMj⟩,E2.step hE fun q hq=>by simp at hq;exact .inr (by omega)⟩
structure OffRe (O:CallF):Prop extends OffRt O where
 re1:∀ a h,O 70 a h=none
 ixe:∀ a h,O 134 a h=none
 cfe:∀ a h,O 69 a h=none
def EffOk (e:Eff):Prop:=∀ a∈e.args,cVal.ok a
theorem rightE1_ok (hO:OffRe O) {n:Nat} {h0:Heap} {e:Eff} {c:List V} (hn:n≤h0.n) (he:EffR (fun i=>i<n) h0 c e) (ht:RngVl e.args) (hb:e.args.length≤2097152) :
  WPc tab.get O 70 [.agg c] h0 (fun v h'=>(∃ b,v=.bool b∧(b=true↔¬ EffOk e))∧Ext h0 h'):=by
 refine w_fn' (hO.re1 _ _) rfl rfl (by simp only [c70,initV,nth] <;> rfl) ?_
 obtain ⟨v,lc,rfl,r1,v1⟩:=he
 have o1:=r1.1.one
 refine w_seq (w_reg (w_box rfl rfl (by show allOne [.int .i64 e.to,.int .i64 e.role,.str e.tag,v]=true;simp only [allOne,o1];rfl) fun iV h1 hV hiV hE1=>?_))
 replace hV:Own h1 iV [.int .i64 e.to,.int .i64 e.role,.str e.tag,v]:=hV
 repeat' (first|refine w_seq ?_|refine w_reg ?_|refine w_e ?_|refine w_rf rfl (by assumption) (by rfl) (by rfl) (by rfl) ?_|refine w_opk rfl rfl ?_)
 refine w_callA [v] rfl ((right_ok hO.toOffRt (r1.1.ext0 hE1) (v1.ext0 hE1) (fun i hi=>by have:=hE1.1;have:i<n:=hi;omega) ht hb).mono fun _ h2 ⟨⟨b,e1,e3⟩,hE2⟩=>?_)
 subst e1
 repeat' (first|refine w_e ?_|refine w_opk rfl rfl ?_|refine w_ret ?_|refine w_rt rfl ?_)
 exact ⟨⟨_,rfl,by unfold EffOk;rw [← e3];cases b <;> simp [iNot]⟩,hE1.trans hE2⟩
theorem indexE_ok (hO:OffRe O) {n:Nat} {h0:Heap} {v:V} {lc:List (List V)} {l:List Eff} (hn:n≤h0.n) (hv:RS h0 4 v lc) (hz:∀ i∈slIds v,i<n) (hl:All2 (EffR (fun i=>i<n) h0) lc l) (ht:∀ e∈l,RngVl e.args∧e.args.length≤2097152) (hb:l.length≤2097152) :
  WPc tab.get O 134 [v,.fn 70 [] []] h0 (fun r h'=>(∃ k:Int,r=.int .i64 k∧((k = -1∧∀ a∈l,EffOk a)∨(0≤k∧¬ ∀ a∈l,EffOk a)))∧Ext h0 h'):=by
 have hll:=hl.1
 refine w_fn' (hO.ixe _ _) rfl rfl (by simp only [c134,initV,nth] <;> rfl) ?_
 repeat' (first|refine w_seq ?_|refine w_reg ?_|refine w_e ?_|refine w_len rfl (by assumption) ?_|refine w_opk rfl rfl ?_)
 refine w_count (fun j vs h=>Ext h0 h∧(∀ a∈l.take j,EffOk a)∧∃ b5 b6 b7,vs=[v,.fn 70 [] [],.int .i64 0,.int .i64 (.ofNat j),.int .i64 (.ofNat lc.length),b5,b6,b7]) lc.length ⟨ExtX.refl _ _,by simp,_,_,_,rfl⟩ ?_
 rintro j vs h hj ⟨hE,hd,b5,b6,b7,rfl⟩
 have r':=hv.ext0 hE
 repeat' (first|refine w_seq ?_|refine w_reg ?_|refine w_e ?_|refine w_lssN rfl rfl (fun hc=>?_) (fun hc=>?_)|refine w_opk rfl rfl ?_|refine w_cond_t rfl ?_|refine w_cond_f rfl ?_|refine w_skip ?_|refine w_exit rfl ?_|refine w_ret ?_|refine w_rt rfl ?_)
 ·have hje:j<lc.length:=by assumption
  have hjl:j<l.length:=by omega
  have va:EffR (fun i=>i<n) h lc[j] l[j]:=(hl.get hje hjl).ext hE (by simp) fun q hq _=>hq
  have hsh:lc[j].length=4:=by
   obtain ⟨v,lc',e,_⟩:=va
   rw [e];rfl
  have htj:=ht _ (List.getElem_mem hjl)
  refine w_block ?_
  repeat' (first|refine w_seq ?_|refine w_reg ?_|refine w_e ?_|refine w_opk rfl rfl ?_)
  refine w_iadrS rfl rfl r' hje ?_
  refine w_loadA rfl (slot_at r' hje) (by rw [hsh];rfl) ?_
  rw [show List.take 4 lc[j]=lc[j] from List.take_of_length_le (by omega)]
  refine w_callv rfl rfl ((rightE1_ok hO (by have:=hE.1;omega) va htj.1 htj.2).mono fun v' h5 ⟨⟨b,e1,e3⟩,e2⟩=>?_)
  subst e1
  cases b
  ·have hok:EffOk l[j]:=Classical.byContradiction fun hn=>absurd (e3.2 hn) (by decide)
   repeat' (first|refine w_reg ?_|refine w_e ?_|refine w_addN rfl rfl (by omega) ?_|refine w_opk rfl rfl ?_|refine w_cond_f rfl ?_|refine w_skip ?_)
   exact ⟨hje,hE.trans e2,fun a ha=>by
    rw [List.take_succ_eq_append_getElem hjl] at ha
    rcases List.mem_append.1 ha with ha | ha
    ·exact hd a ha
    ·rw [List.mem_singleton.1 ha];exact hok,_,_,_,rfl⟩
  ·repeat' (first|refine w_seq ?_|refine w_reg ?_|refine w_e ?_|refine w_opk rfl rfl ?_|refine w_cond_t rfl ?_|refine w_ret ?_|refine w_rt rfl ?_)
   exact ⟨⟨_,rfl,.inr ⟨Int.natCast_nonneg j,fun hall=>e3.1 rfl (hall _ (List.getElem_mem hjl))⟩⟩,hE.trans e2⟩
 ·have ej:j=l.length:=by omega
  rw [ej,List.take_length] at hd
  exact ⟨⟨_,rfl,.inl ⟨rfl,hd⟩⟩,hE⟩
theorem rightE_ok (hO:OffRe O) {n:Nat} {h0:Heap} {v:V} {lc:List (List V)} {l:List Eff} (hn:n≤h0.n) (hv:RS h0 4 v lc) (hz:∀ i∈slIds v,i<n) (hl:All2 (EffR (fun i=>i<n) h0) lc l) (ht:∀ e∈l,RngVl e.args∧e.args.length≤2097152) (hb:l.length≤2097152) :
  WPc tab.get O 69 [v,.fn 70 [] []] h0 (fun r h'=>(∃ b,r=.bool b∧(b=true↔¬ ∀ a∈l,EffOk a))∧Ext h0 h'):=by
 refine w_fn' (hO.cfe _ _) rfl rfl (by simp only [c69,initV,nth] <;> rfl) ?_
 repeat' (first|refine w_seq ?_|refine w_reg ?_|refine w_e ?_|refine w_opk rfl rfl ?_)
 refine w_callA [v,.fn 70 [] []] rfl ((indexE_ok hO hn hv hz hl ht hb).mono fun v' h2 ⟨⟨k,e1,e3⟩,hE2⟩=>?_)
 subst e1
 rcases e3 with ⟨rfl,e3⟩ | ⟨hk,e3⟩
 ·repeat' (first|refine w_e ?_|refine w_opk rfl rfl ?_|refine w_ret ?_|refine w_rt rfl ?_)
  exact ⟨⟨false,rfl,fun h=>absurd h (by decide),fun h=>absurd e3 h⟩,hE2⟩
 ·obtain ⟨n,rfl⟩:∃ n:Nat,k=Int.ofNat n:=⟨k.toNat,(Int.toNat_of_nonneg hk).symm⟩
  repeat' (first|refine w_e ?_|refine w_opk rfl rfl ?_|refine w_ret ?_|refine w_rt rfl ?_)
  exact ⟨⟨true,by cases n <;> rfl,fun _=>e3,fun _=>rfl⟩,hE2⟩
end AmT
namespace AmT
open Go Am
set_option maxRecDepth 100000
set_option maxHeartbeats 8000000
variable {O:CallF}
structure OffRg (O:CallF):Prop extends OffRe O where
 rg:∀ a h,O 26 a h=none
 rl:∀ a h,O 68 a h=none
def FrmV (f:Frm):Prop:=(∀ a∈f.vars,cVal.ok a)∧∀ a∈f.stack,cVal.ok a
theorem rightM_ok (hO:OffRg O) {Z:Nat→Prop} {h0:Heap} {mc tc:List V} {M:ModA} {T:Trn} (hM:ModOk M) (hzn:∀ i,Z i→i<h0.n) (hmZ:ModR Z h0 mc M) (htZ:TrnI Z h0 tc T) (ho:T.over=0) (hT:TrnOk M T)
  (hCk:∀ {h:Heap},Ext h0 h→WPc tab.get O 32 [.agg mc] h (fun r h'=>r=.int .i64 (.ofNat 0)∧Ext h h')) :
  WPc tab.get O 26 [.agg mc,.agg tc] h0 (fun r h'=>(∃ b,r=.bool b∧(b=true↔AllOk T))∧Ext h0 h'):=by
 obtain ⟨n,hn,hzn'⟩:∃ n,n≤h0.n∧∀ i,Z i→i<n:=⟨h0.n,Nat.le_refl _,hzn⟩
 have hm:ModR (fun i=>i<n) h0 mc M:=hmZ.ext (ExtX.refl ([]:List Nat) h0) (by simp) fun j hj _=>hzn' j hj
 have ht:TrnI (fun i=>i<n) h0 tc T:=htZ.mono fun j hj _=>hzn' j hj
 have hms:=hm.shape
 have hts:=ht.shape
 refine w_fn' (hO.rg _ _) rfl rfl (by simp only [c26,initV,nth] <;> rfl) ?_
 refine w_seq (w_reg (w_box rfl hms.1 hms.2 fun iA h1 hA hiA hE1=>?_))
 refine w_box rfl hts.1 hts.2 fun iB h2 hB hiB hE2=>?_
 have E2:=hE1.trans hE2
 have n1:=hE1.1
 have n2:=hE2.1
 replace hA:Own h2 iA mc:=hA.ext0 hE2
 replace hB:Own h2 iB tc:=hB
 obtain ⟨fr,ef,self,next,used,over,trap,role,st⟩:=T
 obtain rfl:over=0:=ho
 have hbd:=hT.bd
 obtain ⟨k0,rest,p,e0,hr0,hrp,hon,hrest⟩:=hbd
 obtain ⟨r,rfl⟩:∃ r:Nat,role=Int.ofNat r:=⟨role.toNat,(Int.toNat_of_nonneg hr0).symm⟩
 replace hrp:M.roles[r]? = some p:=hrp
 replace e0:fr.map (fun f=>f.fn)=k0 :: rest:=e0
 have hfl:fr.length≤50:=hT.len
 have hfp:0<fr.length:=by
  cases fr with
  | nil=>cases e0
  | cons a l=>simp
 have hsl:p.params=(st.length:Int):=by
  have:=hT.sl
  rw [show (Int.ofNat r).toNat=r from rfl,hrp] at this
  simpa using this
 have hrk:r<M.roles.length:=(List.getElem?_eq_some_iff.1 hrp).1
 have hrv:M.roles[r]=p:=(List.getElem?_eq_some_iff.1 hrp).2
 have hps:=(hM.rs p (List.mem_of_getElem? hrp)).2.1
 have hm2:=hm.ext E2 (Z':=fun i=>i<n) (by simp) fun j hj _=>hj
 have ht2:=ht.ext0 E2
 have hmm:=hm2
 obtain ⟨cs,ts,fns,rs,lc,lfn,lr,rfl,r1,v1,r2,r3,a3,r4,a4⟩:=hm2
 obtain ⟨vf,ve,vs,lf,le,ls,rfl,tf,lfl,sf,te,ae,tst,vst,bf,be,bs⟩:=ht2
 have hsl2:=vst.len
 replace lfl:lf.length=fr.length:=lfl
 replace hsl2:ls.length=st.length:=hsl2
 replace bf:fr.length≤2097152:=bf
 replace be:ef.length≤2097152:=be
 replace bs:st.length≤2097152:=bs
 have hlr:=a4.1
 have rr4:=r4.1
 have rtf:=tf.1
 have rst:=tst.1
 have rr3:=r3.1
 have hlfn:=a3.1
 have hrk2:r<lr.length:=by omega
 obtain ⟨ov,epr,rov⟩:=a4.get hrk2 hrk
 rw [hrv] at epr rov
 rw [hsl] at epr
 have hSr:=slot_at rr4 hrk2
 rw [epr] at hSr
 repeat' (first|refine w_seq ?_|refine w_reg ?_|refine w_e ?_|refine w_opk rfl rfl ?_)
 refine w_loadA rfl (hA.at rfl) rfl ?_
 refine w_callA [.agg [cs,ts,fns,rs]] rfl ((hCk E2).mono fun _ h3 ⟨e,hE3⟩=>?_)
 subst e
 have E3:=E2.trans hE3
 have hA3:=hA.ext0 hE3
 have hB3:=hB.ext0 hE3
 have hm3:=hmm.ext hE3 (Z':=fun i=>i<n) (by simp) fun j hj _=>hj
 replace rr4:=rr4.ext0 hE3
 replace rtf:=rtf.ext0 hE3
 replace rst:=rst.ext0 hE3
 replace rr3:=rr3.ext0 hE3
 replace hSr:=slot_at rr4 hrk2
 rw [epr] at hSr
 have hs1:(Int.ofNat ls.length)=(Int.ofNat st.length):=by rw [hsl2]
 clear hA hB hmm
 have c1:iLt (Int.ofNat lf.length) (Int.ofNat 1)=false:=by rw [iLt_eq];exact decide_eq_false (by show ¬ (lf.length:Int)<1;omega)
 have c2:iLt (Int.ofNat 50) (Int.ofNat lf.length)=false:=by rw [iLt_eq];exact decide_eq_false (by show ¬ (50:Int)<lf.length;rw [lfl];show ¬ (50:Int)<fr.length;omega)
 have c3:iNot (iLt (Int.ofNat r) (Int.ofNat lr.length))=false:=by rw [iLt_eq,show decide (Int.ofNat r<Int.ofNat lr.length)=true from decide_eq_true (by show (r:Int)<lr.length;omega)];rfl
 have c4:iNot (iEq (Int.ofNat ls.length) (st.length:Int))=false:=by rw [hsl2,show iEq (Int.ofNat st.length) (st.length:Int)=true from iEq_t (n:=st.length) rfl];rfl
 repeat' (first|refine w_seq ?_|refine w_reg ?_|refine w_e ?_|refine w_rf rfl (by assumption) (by rfl) (by rfl) (by rfl) ?_|refine w_len rfl (by assumption) ?_|refine w_opk rfl rfl ?_|refine w_cond_f rfl ?_|refine w_skip ?_)
 rw [c1]
 repeat' (first|refine w_on rfl ?_|refine w_opk rfl rfl ?_)
 rw [c2]
 repeat' (first|refine w_rfg rfl rfl (by assumption) (by rfl) (by rfl) (by rfl) (by rfl) ?_|refine w_on rfl ?_|refine w_len rfl (by assumption) ?_|refine w_opk rfl rfl ?_)
 rw [c3]
 repeat' (first|refine w_rfg rfl rfl (by assumption) (by rfl) (by rfl) (by rfl) (by rfl) ?_|refine w_on rfl ?_|refine w_len rfl (by assumption) ?_)
 refine w_iadrS rfl rfl rr4 hrk2 ?_
 repeat' (first|refine w_on rfl ?_)
 refine w_fadr rfl hSr rfl fun hSr1=>?_
 repeat' (first|refine w_on rfl ?_)
 refine w_load1 rfl hSr1 rfl ?_
 repeat' (first|refine w_on rfl ?_|refine w_opk rfl rfl ?_)
 rw [c4]
 repeat' (first|refine w_rfg rfl rfl (by assumption) (by rfl) (by rfl) (by rfl) (by rfl) ?_|refine w_on rfl ?_)
 have vst3:=vst.ext0 hE3
 have hst3:∀ a∈st,OkW a:=hT.sv
 refine w_callA [vs] rfl ((right_ok hO.toOffRt rst vst3 (fun i hi=>by have:i<n:=hi;have:=E3.1;omega) (OkW.rngl hst3) bs).mono fun _ h4 ⟨⟨b1,e,hb1⟩,hE4⟩=>?_)
 subst e
 have E4:=E3.trans hE4
 have hA4:=hA3.ext0 hE4
 have hB4:=hB3.ext0 hE4
 have hm4:=hm3.ext hE4 (Z':=fun i=>i<n) (by simp) fun j hj _=>hj
 clear hSr hSr1 rr4 c1 c2 c3 c4
 cases b1
 ·repeat' (first|refine w_seq ?_|refine w_reg ?_|refine w_e ?_|refine w_on rfl ?_|refine w_opk rfl rfl ?_|refine w_cond_t rfl ?_|refine w_ret ?_|refine w_rt rfl ?_)
  exact ⟨⟨false,rfl,fun h=>absurd h (by decide),fun h=>absurd (hb1.2 h.1) (by decide)⟩,E4⟩
 have hst:=hb1.1 rfl
 repeat' (first|refine w_seq ?_|refine w_reg ?_|refine w_e ?_|refine w_on rfl ?_|refine w_opk rfl rfl ?_|refine w_cond_f rfl ?_|refine w_skip ?_)
 refine w_loadA rfl (hA4.at rfl) rfl ?_
 refine w_callA [.agg [cs,ts,fns,rs]] rfl ((roles_ok hO.rl hm4 (fun i hi=>by have:i<n:=hi;have:=E4.1;omega) (by have:=hM.len;omega) (fun r hr=>(hM.rs r hr).2.2.2)).mono fun _ h5 ⟨⟨iM,e,hM5⟩,hE5⟩=>?_)
 subst e
 have E5:=E4.trans hE5
 have E25:=(hE3.trans hE4).trans hE5
 have hA5:=hA4.ext0 hE5
 have hB5:=hB4.ext0 hE5
 replace rtf:=(rtf.ext0 hE4).ext0 hE5
 have n5:=E5.1
 repeat' (first|refine w_seq ?_|refine w_reg ?_|refine w_e ?_|refine w_rf rfl (by assumption) (by rfl) (by rfl) (by rfl) ?_|refine w_len rfl (by assumption) ?_|refine w_opk rfl rfl ?_)
 refine w_count (fun j vs' h=>∃ b11 b13 b14 b15 b16 b18 b19 b20 b21,(Ext h5 h∧∀ (i:Nat) (f:Frm),i<j→fr[i]? = some f→FrmV f)∧vs'=[.agg [cs,ts,fns,rs],.agg [vf,ve,.int .i64 self,.int .i64 next,.int .i64 used,.int .u8 0,.int .i64 trap,.int .i64 (.ofNat r),vs],.bool false,.ptr iA 0 0 4,.bool false,.ptr iB 0 0 9,.bool false,.int .i64 (.ofNat lf.length),.bool false,.int .i64 (.ofNat j),.int .i64 (.ofNat lf.length),b11,vf,b13,b14,b15,b16,.map iM,b18,b19,b20,b21]) lf.length ⟨_,_,_,_,_,_,_,_,_,⟨ExtX.refl _ _,fun i f h=>by omega⟩,rfl⟩ ?_
 rintro j vs' h hj ⟨b11,b13,b14,b15,b16,b18,b19,b20,b21,⟨hE,hd⟩,rfl⟩
 have EE:=E25.trans hE
 have hA':=hA5.ext0 hE
 have hB':=hB5.ext0 hE
 have rtf':=rtf.ext0 hE
 have hM':=hM5.ext0 hE
 have rr3':=r3.1.ext0 EE
 have nh:n≤h.n:=by have:=hE.1;omega
 by_cases hjl:j<lf.length
 ·have hjF:j<fr.length:=by omega
  have hfo:=hT.fs fr[j] (List.getElem_mem hjF)
  obtain ⟨F,hFB,hat⟩:=hfo
  have hvl:=hFB.vl
  have hstk:=hFB.st
  have hvsk:=hFB.vs
  have hssk:=hFB.ss
  have hFk:=hM.fs _ _ hFB.hF
  obtain ⟨vv,stk,lv,lst,e,⟨q1,z1⟩,y1,⟨q2,z2⟩,y2,v1',v2'⟩:=sf j lf[j] fr[j] (List.getElem?_eq_getElem hjl) (List.getElem?_eq_getElem hjF)
  have hfn1:fr[j].fn<M.fns.length:=(List.getElem?_eq_some_iff.1 hFB.hF).1
  have hfn2:fr[j].fn<lfn.length:=by omega
  have hfn3:M.fns[fr[j].fn]=F:=(List.getElem?_eq_some_iff.1 hFB.hF).2
  obtain ⟨cv,efn,rcv⟩:=a3.get hfn2 hfn1
  rw [hfn3] at efn rcv
  have hgj:getI (Int.ofNat fr[j].fn) (rolesU M.roles M.roles.length)=if j=0 then some (.int .i64 (.ofNat r)) else none:=by
   have hmap:∀ i:Nat,(fr.map fun f=>f.fn)[i]? = (k0 :: rest)[i]?:=fun i=>by rw [e0]
   by_cases h0:j=0
   ·subst h0
    have:=hmap 0
    rw [List.getElem?_map,List.getElem?_eq_getElem hjF] at this
    simp only [Option.map_some,List.getElem?_cons_zero,Option.some.injEq] at this
    rw [if_pos rfl,this]
    obtain ⟨o,ho,hof⟩:=hon
    exact rolesU_yes hM hrp ⟨o,ho,hof⟩ _ hrk
   ·rw [if_neg h0]
    obtain ⟨j',rfl⟩:∃ j',j=j'+1:=⟨j - 1,by omega⟩
    have:=hmap (j'+1)
    rw [List.getElem?_map,List.getElem?_eq_getElem hjF] at this
    simp only [Option.map_some,List.getElem?_cons_succ] at this
    exact rolesU_no (hrest _ (List.mem_of_getElem? this.symm)) _
  have hS:=slot_at rtf' hjl
  rw [e] at hS
  have hSf:=slot_at rr3' hfn2
  rw [efn] at hSf
  have o4:=q1.one
  have o5:=q2.one
  have o6:=rcv.1.one
  have hlv:=y1.len
  have hls:=y2.len
  have hd0:fr[j]? = some fr[j]:=List.getElem?_eq_getElem hjF
  generalize fr[j]=f at *
  have d1:iNot (iLt (Int.ofNat f.fn) (Int.ofNat lfn.length))=false:=by rw [iLt_eq,show decide (Int.ofNat f.fn<Int.ofNat lfn.length)=true from decide_eq_true (by show (f.fn:Int)<lfn.length;omega)];rfl
  have d2:iNot (iLt (Int.ofNat f.at_) (Int.ofNat (F.code.map insC).length))=false:=by rw [iLt_eq,show decide (Int.ofNat f.at_<Int.ofNat (F.code.map insC).length)=true from decide_eq_true (by show (f.at_:Int)<(F.code.map insC).length;rw [List.length_map];omega)];rfl
  have d3:iNot (iEq (Int.ofNat lv.length) F.vars)=false:=by
   rw [← hvl,hlv,show iEq (Int.ofNat f.vars.length) (f.vars.length:Int)=true from iEq_t (n:=f.vars.length) rfl];rfl
  have d4:iLt (Int.ofNat 200) (Int.ofNat lst.length)=false:=by rw [iLt_eq];exact decide_eq_false (by show ¬ (200:Int)<lst.length;omega)
  repeat' (first|refine w_seq ?_|refine w_reg ?_|refine w_e ?_|refine w_rf rfl (by assumption) (by rfl) (by rfl) (by rfl) ?_|refine w_lssN rfl rfl (fun hc=>?_) (fun hc=>?_)|refine w_cond_t rfl ?_|refine w_cond_f rfl ?_|refine w_skip ?_|refine w_exit rfl ?_)
  refine w_block ?_
  repeat' (first|refine w_seq ?_|refine w_reg ?_|refine w_opk rfl rfl ?_)
  refine w_iadrS rfl rfl rtf' hjl ?_
  refine w_loadA rfl hS rfl ?_
  refine w_alloc fun iF h6 hF hiF hE6=>?_
  repeat' (first|refine w_opk rfl rfl ?_)
  refine w_store rfl rfl hF rfl (by show allOne [.int .i64 (.ofNat f.fn),.int .i64 (.ofNat f.at_),vv,stk]=true;simp only [allOne,o4,o5];rfl) (by decide) (by simp) fun h7 hF7 hE7 hn7=>?_
  replace hF7:Own h7 iF [.int .i64 (.ofNat f.fn),.int .i64 (.ofNat f.at_),vv,stk]:=hF7
  have E7:Ext h h7:=hE6.step hE7 fun q hq=>by simp at hq;exact .inr (by omega)
  replace hA':=hA'.ext0 E7
  replace hB':=hB'.ext0 E7
  replace rr3':=rr3'.ext0 E7
  replace hSf:=slot_at rr3' hfn2
  rw [efn] at hSf
  clear rtf' hF hE7 hS
  repeat' (first|refine w_seq ?_|refine w_reg ?_|refine w_e ?_|refine w_rf rfl (by assumption) (by rfl) (by rfl) (by rfl) ?_|refine w_rfg rfl rfl (by assumption) (by rfl) (by rfl) (by rfl) (by rfl) ?_|refine w_on rfl ?_|refine w_len rfl (by assumption) ?_|refine w_opk rfl rfl ?_)
  rw [d1]
  repeat' (first|refine w_seq ?_|refine w_reg ?_|refine w_rf rfl (by assumption) (by rfl) (by rfl) (by rfl) ?_|refine w_cond_f rfl ?_|refine w_skip ?_)
  refine w_iadrS rfl rfl rr3' hfn2 ?_
  refine w_loadA rfl hSf rfl ?_
  refine w_alloc fun iG h8 hG hiG hE8=>?_
  refine w_store rfl rfl hG rfl (by show allOne [.str F.name,.int .i64 F.params,.int .i64 F.vars,cv]=true;simp only [allOne,o6];rfl) (by decide) (by simp) fun h9 hG9 hE9 hn9=>?_
  replace hG9:Own h9 iG [.str F.name,.int .i64 F.params,.int .i64 F.vars,cv]:=hG9
  have E9:Ext h7 h9:=hE8.step hE9 fun q hq=>by simp at hq;exact .inr (by omega)
  have E79:=E7.trans E9
  have F9:=hF7.ext0 E9
  replace hA':=hA'.ext0 E9
  replace hB':=hB'.ext0 E9
  have rvv:=(q1.ext0 EE).ext0 E79
  have rstk:=(q2.ext0 EE).ext0 E79
  have yv:=(y1.ext0 EE).ext0 E79
  have ys:=(y2.ext0 EE).ext0 E79
  have rcode:=(rcv.1.ext0 EE).ext0 E79
  have n9:=E79.1
  clear rr3' hSf hF7 hG hE9
  repeat' (first|refine w_seq ?_|refine w_reg ?_|refine w_e ?_|refine w_rf rfl (by assumption) (by rfl) (by rfl) (by rfl) ?_|refine w_rfg rfl rfl (by assumption) (by rfl) (by rfl) (by rfl) (by rfl) ?_|refine w_on rfl ?_|refine w_len rfl (by assumption) ?_|refine w_opk rfl rfl ?_)
  rw [d2]
  repeat' (first|refine w_rfg rfl rfl (by assumption) (by rfl) (by rfl) (by rfl) (by rfl) ?_|refine w_on rfl ?_|refine w_len rfl (by assumption) ?_|refine w_opk rfl rfl ?_)
  rw [d3]
  repeat' (first|refine w_rfg rfl rfl (by assumption) (by rfl) (by rfl) (by rfl) (by rfl) ?_|refine w_on rfl ?_|refine w_len rfl (by assumption) ?_|refine w_opk rfl rfl ?_)
  rw [d4]
  repeat' (first|refine w_rfg rfl rfl (by assumption) (by rfl) (by rfl) (by rfl) (by rfl) ?_|refine w_on rfl ?_)
  refine w_callA [vv] rfl ((right_ok hO.toOffRt rvv yv (fun i hi=>by have:i<n:=hi;omega) (OkW.rngl hvsk) v1').mono fun _ h10 ⟨⟨b2,e2,hb2⟩,hE10⟩=>?_)
  subst e2
  have F10:=F9.ext0 hE10
  have hB10:=hB'.ext0 hE10
  have n10:=hE10.1
  cases b2
  ·repeat' (first|refine w_seq ?_|refine w_reg ?_|refine w_e ?_|refine w_off rfl ?_|refine w_on rfl ?_|refine w_opk rfl rfl ?_|refine w_cond_t rfl ?_|refine w_ret ?_|refine w_rt rfl ?_)
   exact ⟨⟨false,rfl,fun h=>absurd h (by decide),fun h=>absurd (hb2.2 (h.2.1 f (List.mem_of_getElem? hd0)).1) (by decide)⟩,E5.trans (hE.trans (E79.trans hE10))⟩
  repeat' (first|refine w_rfg rfl rfl (by assumption) (by rfl) (by rfl) (by rfl) (by rfl) ?_|refine w_on rfl ?_|refine w_opk rfl rfl ?_)
  refine w_callA [stk] rfl ((right_ok hO.toOffRt (rstk.ext0 hE10) (ys.ext0 hE10) (fun i hi=>by have:i<n:=hi;omega) (OkW.rngl hssk) v2').mono fun _ h11 ⟨⟨b3,e3,hb3⟩,hE11⟩=>?_)
  subst e3
  have F11:=F10.ext0 hE11
  have hB11:=hB10.ext0 hE11
  have EX:=(E79.trans hE10).trans hE11
  have hM11:=hM'.ext0 EX
  clear F9 F10 hB' hB10 hA' rvv rstk rcode d1 d2 d3 d4
  cases b3
  ·repeat' (first|refine w_seq ?_|refine w_reg ?_|refine w_e ?_|refine w_on rfl ?_|refine w_opk rfl rfl ?_|refine w_cond_t rfl ?_|refine w_ret ?_|refine w_rt rfl ?_)
   exact ⟨⟨false,rfl,fun h=>absurd h (by decide),fun h=>absurd (hb3.2 (h.2.1 f (List.mem_of_getElem? hd0)).2) (by decide)⟩,E5.trans (hE.trans EX)⟩
  have hfv:FrmV f:=⟨hb2.1 rfl,hb3.1 rfl⟩
  repeat' (first|refine w_seq ?_|refine w_reg ?_|refine w_e ?_|refine w_rf rfl (by assumption) (by rfl) (by rfl) (by rfl) ?_|refine w_on rfl ?_|refine w_opk rfl rfl ?_|refine w_cond_f rfl ?_|refine w_skip ?_)
  refine w_lookI rfl rfl hM11 ?_
  rw [hgj]
  have hd':∀ (i:Nat) (g:Frm),i<j+1→fr[i]? = some g→FrmV g:=fun i g hi hg=>by
   by_cases hij:i<j
   ·exact hd i g hij hg
   ·obtain rfl:i=j:=by omega
    rw [hd0] at hg
    cases hg
    exact hfv
  cases j with
  | zero=>
   rw [if_pos rfl]
   have t1:iNot (iEq (Int.ofNat r) (Int.ofNat r))=false:=by rw [show iEq (Int.ofNat r) (Int.ofNat r)=true from iEq_t (n:=r) rfl];rfl
   repeat' (first|refine w_seq ?_|refine w_reg ?_|refine w_e ?_|refine w_rfg rfl rfl (by assumption) (by rfl) (by rfl) (by rfl) (by rfl) ?_|refine w_on rfl ?_|refine w_opk rfl rfl ?_)
   rw [t1]
   repeat' (first|refine w_reg ?_|refine w_e ?_|refine w_addN rfl rfl (by omega) ?_|refine w_opk rfl rfl ?_|refine w_cond_f rfl ?_|refine w_skip ?_)
   exact ⟨hjl,_,_,_,_,_,_,_,_,_,⟨hE.trans EX,hd'⟩,rfl⟩
  | succ j'=>
   rw [if_neg (by omega)]
   repeat' (first|refine w_seq ?_|refine w_reg ?_|refine w_e ?_|refine w_off rfl ?_|refine w_on rfl ?_|refine w_addN rfl rfl (by omega) ?_|refine w_opk rfl rfl ?_|refine w_cond_f rfl ?_|refine w_skip ?_)
   exact ⟨hjl,_,_,_,_,_,_,_,_,_,⟨hE.trans EX,hd'⟩,rfl⟩
  exact absurd hjl (by omega)
 ·have rve:=te.1.ext0 EE
  have ae':All2 (EffR (fun i=>i<n) h) le ef:=ae.mono fun _ _ _ _ q=>q.ext EE (by simp) fun q hq _=>hq
  repeat' (first|refine w_seq ?_|refine w_reg ?_|refine w_e ?_|refine w_rf rfl (by assumption) (by rfl) (by rfl) (by rfl) ?_|refine w_lssN rfl rfl (fun hc=>?_) (fun hc=>?_)|refine w_cond_t rfl ?_|refine w_cond_f rfl ?_|refine w_skip ?_|refine w_exit rfl ?_)
  ·exact absurd (by assumption) hjl
  refine w_callA [ve,.fn 70 [] []] rfl ((rightE_ok hO.toOffRe nh rve te.2 ae' (fun e he=>⟨OkW.rngl (hT.ef e he).2,by have:=(hT.ef e he).1;omega⟩) be).mono fun _ h6 ⟨⟨b4,e4,hb4⟩,hE6⟩=>?_)
  subst e4
  have hfr:∀ f∈fr,FrmV f:=fun f hf=>by
   obtain ⟨i,hi,rfl⟩:=List.getElem_of_mem hf
   exact hd i _ (by omega) (List.getElem?_eq_getElem hi)
  cases b4
  ·repeat' (first|refine w_e ?_|refine w_opk rfl rfl ?_|refine w_ret ?_|refine w_rt rfl ?_)
   exact ⟨⟨true,rfl,fun _=>⟨hst,hfr,Classical.byContradiction fun hh=>absurd (hb4.2 hh) (by decide)⟩,fun _=>rfl⟩,E5.trans (hE.trans hE6)⟩
  ·repeat' (first|refine w_e ?_|refine w_opk rfl rfl ?_|refine w_ret ?_|refine w_rt rfl ?_)
   exact ⟨⟨false,rfl,fun h=>absurd h (by decide),fun h=>absurd h.2.2 (hb4.1 rfl)⟩,E5.trans (hE.trans hE6)⟩
end AmT
namespace AmT
open Go Am
set_option maxRecDepth 100000
set_option maxHeartbeats 8000000
variable {O:CallF}
structure OffBg (O:CallF):Prop extends OffRt O where
 bg:∀ a h,O 16 a h=none
 bg1:∀ a h,O 58 a h=none
 ixo:∀ a h,O 57 a h=none
 fr:∀ a h,O 59 a h=none
 cl:∀ a h,O 56 a h=none
def onP (tag:List UInt8) (n:Nat) (o:OnA):Bool:=decide (o.tag=tag) && decide (o.params=(n:Int))
theorem beg1_ok (hO:OffBg O) {h0:Heap} {o:OnA} {tag:List UInt8} {av:V} {lca:List (List V)} {iT iV:Nat} (hT:Own h0 iT [.str tag]) (hV:Own h0 iV [av]) (ha:RS h0 4 av lca) :
  WPc tab.get O 58 [.agg (onC o),.ptr iT 0 0 1,.ptr iV 0 0 1] h0 (fun v h'=>v=.bool (onP tag lca.length o)∧Ext h0 h'):=by
 refine w_fn' (hO.bg1 _ _) rfl rfl (by simp only [c58,initV,nth] <;> rfl) ?_
 refine w_seq (w_reg (w_box rfl rfl rfl fun iO h1 hO1 hiO hE1=>?_))
 replace hO1:Own h1 iO [.str o.tag,.int .i64 o.params,.int .i64 o.fn]:=hO1
 have hT1:=hT.ext0 hE1
 have hV1:=hV.ext0 hE1
 have ha1:=ha.ext0 hE1
 repeat' (first|refine w_seq ?_|refine w_reg ?_|refine w_e ?_|refine w_rf rfl (by assumption) (by rfl) (by rfl) (by rfl) ?_|refine w_fl rfl (by assumption) (by rfl) (by rfl) (by rfl) ?_|refine w_opq rfl rfl ?_)
 refine w_eqS rfl rfl ?_
 by_cases ht:o.tag=tag
 ·rw [eqBytes_iff.2 ht]
  repeat' (first|refine w_e ?_|refine w_rfg rfl rfl (by assumption) (by rfl) (by rfl) (by rfl) (by rfl) ?_|refine w_fl rfl (by assumption) (by rfl) (by rfl) (by rfl) ?_|refine w_on rfl ?_|refine w_len rfl (by assumption) ?_|refine w_opk rfl rfl ?_|refine w_ret ?_|refine w_rt rfl ?_)
  exact ⟨by
   show V.bool (iEq o.params (Int.ofNat lca.length))=_
   unfold onP
   rw [iEq_eq,decide_eq_true ht,Bool.true_and]
   congr 1,hE1⟩
 ·rw [show eqBytes o.tag tag=false from Bool.eq_false_iff.2 fun q=>ht (eqBytes_iff.1 q)]
  repeat' (first|refine w_e ?_|refine w_off rfl ?_|refine w_opk rfl rfl ?_|refine w_ret ?_|refine w_rt rfl ?_)
  exact ⟨by unfold onP;rw [decide_eq_false ht];rfl,hE1⟩
def FoundP (p:OnA→Bool) (l:List OnA) (k:Int):Prop:=(k = -1∧l.find? p=none)∨∃ i o,k=Int.ofNat i∧l[i]? = some o∧l.find? p=some o
theorem find_take {p:OnA→Bool} {l:List OnA} {j:Nat} (h:∀ o∈l.take j,p o=false) (hj:j<l.length) (hp:p l[j]=true):l.find? p=some l[j]:=by
 have e:l=l.take j++l[j] :: l.drop (j+1):=by
  rw [List.getElem_cons_drop,List.take_append_drop]
 generalize l[j]=x at *
 have e2:(l.take j++x :: l.drop (j+1)).find? p=some x:=by
  rw [List.find?_append,List.find?_eq_none.2 fun o ho=>by rw [h o ho];decide]
  simp only [Option.none_or,List.find?_cons,hp]
 rw [← e] at e2
 exact e2
theorem begIx_ok (hO:OffBg O) {h0:Heap} {ov av:V} {l:List OnA} {tag:List UInt8} {lca:List (List V)} {iT iV:Nat} (hv:RS h0 3 ov (l.map onC)) (hb:l.length≤2097152) (hT:Own h0 iT [.str tag]) (hV:Own h0 iV [av]) (ha:RS h0 4 av lca) :
  WPc tab.get O 57 [ov,.fn 58 [] [.ptr iT 0 0 1,.ptr iV 0 0 1]] h0 (fun r h'=>(∃ k:Int,r=.int .i64 k∧FoundP (onP tag lca.length) l k)∧Ext h0 h'):=by
 have hll:(l.map onC).length=l.length:=List.length_map ..
 refine w_fn' (hO.ixo _ _) rfl rfl (by simp only [c57,initV,nth] <;> rfl) ?_
 repeat' (first|refine w_seq ?_|refine w_reg ?_|refine w_e ?_|refine w_len rfl (by assumption) ?_|refine w_opk rfl rfl ?_)
 refine w_count (fun j vs h=>Ext h0 h∧(∀ a∈l.take j,onP tag lca.length a=false)∧∃ b5 b6 b7,vs=[ov,.fn 58 [] [.ptr iT 0 0 1,.ptr iV 0 0 1],.int .i64 0,.int .i64 (.ofNat j),.int .i64 (.ofNat (l.map onC).length),b5,b6,b7]) (l.map onC).length ⟨ExtX.refl _ _,by simp,_,_,_,rfl⟩ ?_
 rintro j vs h hj ⟨hE,hd,b5,b6,b7,rfl⟩
 have r':=hv.ext0 hE
 repeat' (first|refine w_seq ?_|refine w_reg ?_|refine w_e ?_|refine w_lssN rfl rfl (fun hc=>?_) (fun hc=>?_)|refine w_opk rfl rfl ?_|refine w_cond_t rfl ?_|refine w_cond_f rfl ?_|refine w_skip ?_|refine w_exit rfl ?_|refine w_ret ?_|refine w_rt rfl ?_)
 ·have hje:j<(l.map onC).length:=by assumption
  have hjl:j<l.length:=by omega
  have hS:=slot_at r' hje
  rw [List.getElem_map] at hS
  refine w_block ?_
  repeat' (first|refine w_seq ?_|refine w_reg ?_|refine w_e ?_|refine w_opk rfl rfl ?_)
  refine w_iadrS rfl rfl r' hje ?_
  refine w_loadA rfl hS rfl ?_
  refine w_callv rfl rfl ((beg1_ok hO (o:=l[j]) (hT.ext0 hE) (hV.ext0 hE) (ha.ext0 hE)).mono fun v' h5 ⟨e1,e2⟩=>?_)
  subst e1
  cases hp:onP tag lca.length l[j]
  ·repeat' (first|refine w_reg ?_|refine w_e ?_|refine w_addN rfl rfl (by omega) ?_|refine w_opk rfl rfl ?_|refine w_cond_f rfl ?_|refine w_skip ?_)
   exact ⟨hje,hE.trans e2,fun a ha=>by
    rw [List.take_succ_eq_append_getElem hjl] at ha
    rcases List.mem_append.1 ha with ha | ha
    ·exact hd a ha
    ·rw [List.mem_singleton.1 ha];exact hp,_,_,_,rfl⟩
  ·repeat' (first|refine w_seq ?_|refine w_reg ?_|refine w_e ?_|refine w_opk rfl rfl ?_|refine w_cond_t rfl ?_|refine w_ret ?_|refine w_rt rfl ?_)
   exact ⟨⟨_,rfl,.inr ⟨j,l[j],rfl,List.getElem?_eq_getElem hjl,find_take hd hjl hp⟩⟩,hE.trans e2⟩
 ·have ej:j=l.length:=by omega
  rw [ej,List.take_length] at hd
  exact ⟨⟨_,rfl,.inl ⟨rfl,List.find?_eq_none.2 fun o ho=>by rw [hd o ho];decide⟩⟩,hE⟩
theorem tail9 {h:Heap} {iR:Nat} {c:List V} (hR:Own h iR c) (hc:c.length=9) {vs:List V} {n:Nat} {t:V} (hn:nth vs n=some (.ptr iR 0 0 9)) {k:Nat} (hk:nth vs k=some t):resV vs h [.cell n true 9,.var k]=some [.agg c,t]:=by
 have e1:=(hR.at (hi:=9) hc).agg (n:=9) (by omega)
 rw [show List.take 9 c=c from List.take_of_length_le (by omega)] at e1
 simp only [resV,hn,hk,e1]
theorem begin_ok (hO:OffBg O) {Z:Nat→Prop} {r:Nat} {h0:Heap} {mc:List V} {M:ModA} {p:PartA} {sv av:V} {lcs lca:List (List V)} {state args:List Val} {tag:List UInt8} {self next:Int} (hM:ModOk M) (hzn:∀ i,Z i→i<h0.n) (hm:ModR Z h0 mc M) (hrp:M.roles[r]? = some p) (hl:p.params=(state.length:Int))
  (hsv:RSz Z h0 4 sv lcs) (hss:VasR Z h0 state lcs) (hav:RSz Z h0 4 av lca) (haa:VasR Z h0 args lca) (hso:∀ a∈state,cVal.ok a) (hao:∀ a∈args,cVal.ok a) (hal:args.length≤900000)
  (hCk:∀ {h:Heap},Ext h0 h→WPc tab.get O 32 [.agg mc] h (fun r h'=>r=.int .i64 (.ofNat 0)∧Ext h h')) :
  WPc tab.get O 16 [.agg mc,.int .i64 (.ofNat r),sv,.str tag,av,.int .i64 self,.int .i64 next] h0 (fun w h'=>∃ c,w=.tuple [.agg c,.int .i64 (.ofNat 0)]∧TrnI (fun i=>Z i∨h0.n≤i) h' c (begT M r p state tag args self next)∧Ext h0 h'):=by
 have hms:=hm.shape
 have os:=hsv.1.one
 have oa:=hav.1.one
 refine w_fn' (hO.bg _ _) rfl rfl (by simp only [c16,initV,nth] <;> rfl) ?_
 refine w_seq (w_reg (w_box rfl hms.1 hms.2 fun iA h1 hA hiA hE1=>?_))
 refine w_box rfl rfl rfl fun iT h2 hT hiT hE2=>?_
 refine w_box rfl (by rw [V.cells1 oa];rfl) (by rw [V.cells1 oa];simp only [allOne,oa]) fun iV h3 hV hiV hE3=>?_
 refine w_alloc fun iR h4 hR hiR hE4=>?_
 have E4:=((hE1.trans hE2).trans hE3).trans hE4
 have n1:=hE1.1
 have n2:=hE2.1
 have n3:=hE3.1
 have n4:=hE4.1
 rw [V.cells1 oa] at hV
 replace hA:Own h4 iA mc:=((hA.ext0 hE2).ext0 hE3).ext0 hE4
 replace hT:Own h4 iT [.str tag]:=(hT.ext0 hE3).ext0 hE4
 replace hV:Own h4 iV [av]:=hV.ext0 hE4
 have hRl:=hR.1
 have e4:List.take 4 mc=mc:=List.take_of_length_le (by omega)
 have hrk:r<M.roles.length:=(List.getElem?_eq_some_iff.1 hrp).1
 have hrv:M.roles[r]=p:=(List.getElem?_eq_some_iff.1 hrp).2
 have hpr:=hM.rs p (List.mem_of_getElem? hrp)
 have hm4:=hm.ext E4 (Z':=Z) (by simp) fun j hj _=>hj
 obtain ⟨cs,ts,fns,rs,lc,lfn,lr,rfl,r1,v1,r2,r3,a3,r4,a4⟩:=hm4
 have hlr:=a4.1
 have hlfn:=a3.1
 have hls:=hss.len
 have hla:=haa.len
 have hrk2:r<lr.length:=by omega
 obtain ⟨ov,epr,rov⟩:=a4.get hrk2 hrk
 rw [hrv] at epr rov
 rw [hl] at epr
 repeat' (first|refine w_seq ?_|refine w_reg ?_|refine w_e ?_|refine w_opk rfl rfl ?_)
 refine w_loadA rfl (hA.at rfl) rfl ?_
 refine w_callA [.agg [cs,ts,fns,rs]] rfl ((hCk E4).mono fun _ h5 ⟨e,hE5⟩=>?_)
 subst e
 have E5:=E4.trans hE5
 replace hA:=hA.ext0 hE5
 replace hT:=hT.ext0 hE5
 replace hV:=hV.ext0 hE5
 replace hR:=hR.ext0 hE5
 have rr4:=r4.1.ext0 hE5
 have rsv:=hsv.1.ext0 E5
 have hSr:=slot_at rr4 hrk2
 rw [epr] at hSr
 have c3:iNot (iLt (Int.ofNat r) (Int.ofNat lr.length))=false:=by rw [iLt_eq,show decide (Int.ofNat r<Int.ofNat lr.length)=true from decide_eq_true (by show (r:Int)<lr.length;omega)];rfl
 have c4:iNot (iEq (Int.ofNat lcs.length) (state.length:Int))=false:=by rw [hls,show iEq (Int.ofNat state.length) (state.length:Int)=true from iEq_t (n:=state.length) rfl];rfl
 repeat' (first|refine w_seq ?_|refine w_reg ?_|refine w_e ?_|refine w_rfg rfl rfl (by assumption) (by rfl) (by rfl) (by rfl) (by rfl) ?_|refine w_on rfl ?_|refine w_len rfl (by assumption) ?_|refine w_opk rfl rfl ?_|refine w_cond_f rfl ?_|refine w_skip ?_)
 rw [c3]
 repeat' (first|refine w_rfg rfl rfl (by assumption) (by rfl) (by rfl) (by rfl) (by rfl) ?_|refine w_on rfl ?_|refine w_len rfl (by assumption) ?_|refine w_opk rfl rfl ?_)
 refine w_iadrS rfl rfl rr4 hrk2 ?_
 repeat' (first|refine w_on rfl ?_)
 refine w_fadr rfl hSr rfl fun hSr1=>?_
 repeat' (first|refine w_on rfl ?_)
 refine w_load1 rfl hSr1 rfl ?_
 repeat' (first|refine w_on rfl ?_|refine w_opk rfl rfl ?_)
 rw [c4]
 repeat' (first|refine w_on rfl ?_|refine w_opk rfl rfl ?_)
 refine w_callA [sv] rfl ((right_ok hO.toOffRt rsv (hss.ext0 E5) (fun i hi=>by have:=hzn i hi;have:=E5.1;omega) (OkW.rngl fun a ha=>.inl (hso a ha)) (by have:=hpr.2.1;omega)).mono fun _ h6 ⟨⟨b1,e,hb1⟩,hE6⟩=>?_)
 subst e
 obtain rfl:b1=true:=hb1.2 hso
 have E6:=E5.trans hE6
 replace hA:=hA.ext0 hE6
 replace hT:=hT.ext0 hE6
 replace hV:=hV.ext0 hE6
 replace hR:=hR.ext0 hE6
 clear hSr hSr1 rr4 rsv
 repeat' (first|refine w_fl rfl (by assumption) (by rfl) (by rfl) (by rfl) ?_|refine w_on rfl ?_|refine w_opk rfl rfl ?_)
 refine w_callA [av] rfl ((right_ok hO.toOffRt (hav.1.ext0 E6) (haa.ext0 E6) (fun i hi=>by have:=hzn i hi;have:=E6.1;omega) (OkW.rngl fun a ha=>.inl (hao a ha)) (by omega)).mono fun _ h7 ⟨⟨b2,e,hb2⟩,hE7⟩=>?_)
 subst e
 obtain rfl:b2=true:=hb2.2 hao
 have E7:=E6.trans hE7
 replace hA:=hA.ext0 hE7
 replace hT:=hT.ext0 hE7
 replace hV:=hV.ext0 hE7
 replace hR:=hR.ext0 hE7
 repeat' (first|refine w_seq ?_|refine w_reg ?_|refine w_e ?_|refine w_on rfl ?_|refine w_opk rfl rfl ?_|refine w_cond_f rfl ?_|refine w_skip ?_)
 refine w_callA [sv] rfl ((cloneVal_ok hO.cl (hsv.1.ext0 E7) (by have:=hpr.2.1;omega)).mono fun ws h8 ⟨hws,hE8,nws⟩=>?_)
 have E8:=E7.trans hE8
 replace hA:=hA.ext0 hE8
 replace hT:=hT.ext0 hE8
 replace hV:=hV.ext0 hE8
 replace hR:=hR.ext0 hE8
 have ow:=hws.rs.one
 have n47:h4.n≤h7.n:=by have:=hE5.1;have:=hE6.1;have:=hE7.1;omega
 have n78:=hE8.1
 skip
 refine w_build [.nils,.nils,.int .i64 self,.int .i64 next,.int .i64 (.ofNat 0),.int .u8 (.ofNat 0),.int .i64 (.ofNat 0),.int .i64 (.ofNat r),ws] rfl (by simp only [fillP,V.cells1 ow,allOne,ow];rfl) ?_
 refine w_alloc fun iX h9 hX hiX hE9=>?_
 refine w_store rfl rfl hX rfl (by show allOne [.nils,.nils,.int .i64 self,.int .i64 next,.int .i64 (.ofNat 0),.int .u8 (.ofNat 0),.int .i64 (.ofNat 0),.int .i64 (.ofNat r),ws]=true;simp only [allOne,ow];rfl) (by decide) (by simp) fun h10 hX10 hE10 hn10=>?_
 replace hX10:Own h10 iX [.nils,.nils,.int .i64 self,.int .i64 next,.int .i64 (.ofNat 0),.int .u8 (.ofNat 0),.int .i64 (.ofNat 0),.int .i64 (.ofNat r),ws]:=hX10
 have E810:Ext h8 h10:=hE9.step hE10 fun q hq=>by simp at hq;exact .inr (by omega)
 have E10:=E8.trans E810
 replace hA:=hA.ext0 E810
 replace hT:=hT.ext0 E810
 replace hV:=hV.ext0 E810
 replace hR:=hR.ext0 E810
 have rr4:=(r4.1.ext0 hE5).ext0 (((hE6.trans hE7).trans hE8).trans E810)
 have rov10:=(rov.1.ext0 hE5).ext0 (((hE6.trans hE7).trans hE8).trans E810)
 have hSr:=slot_at rr4 hrk2
 rw [epr] at hSr
 repeat' (first|refine w_seq ?_|refine w_reg ?_|refine w_e ?_|refine w_rf rfl (by assumption) (by rfl) (by rfl) (by rfl) ?_|refine w_opk rfl rfl ?_)
 refine w_iadrS rfl rfl rr4 hrk2 ?_
 refine w_fadr rfl hSr rfl fun hSr2=>?_
 refine w_load1 (c:=[]) rfl hSr2 rfl ?_
 repeat' (first|refine w_opk rfl rfl ?_)
 refine w_callA [ov,.fn 58 [] [.ptr iT 0 0 1,.ptr iV 0 0 1]] rfl ((begIx_ok hO rov10 hpr.2.2.2 hT hV (hav.1.ext0 E10)).mono fun _ h11 ⟨⟨k,e,hk⟩,hE11⟩=>?_)
 subst e
 rw [hla] at hk
 have E11:=E10.trans hE11
 replace hA:=hA.ext0 hE11
 replace hV:=hV.ext0 hE11
 replace hR:=hR.ext0 hE11
 replace hX10:=hX10.ext0 hE11
 replace rr4:=rr4.ext0 hE11
 have rov11:=rov10.ext0 hE11
 have hws0:=hws.rs.lt
 replace hws:=(hws.ext0 E810).ext0 hE11
 clear hSr hSr2 rov10 hT hX hE10 hE9
 rcases hk with ⟨rfl,hf⟩ | ⟨i,o,rfl,hio,hf⟩
 ·have eb:begT M r p state tag args self next=⟨[],[],self,next,0,4,7,r,state⟩:=by
   unfold begT
   rw [show (p.on.find? fun o=>decide (o.tag=tag) && decide (o.params=(args.length:Int)))=none from hf]
  rw [eb]
  repeat' (first|refine w_seq ?_|refine w_reg ?_|refine w_e ?_|refine w_opk rfl rfl ?_|refine w_cond_t rfl ?_)
  refine w_store rfl rfl hX10 rfl rfl (by decide) (by simp) fun h12 hX12 hE12 hn12=>?_
  replace hX12:Own h12 iX [.nils,.nils,.int .i64 self,.int .i64 next,.int .i64 (.ofNat 0),.int .u8 (.ofNat 4),.int .i64 (.ofNat 0),.int .i64 (.ofNat r),ws]:=hX12
  repeat' (first|refine w_opk rfl rfl ?_)
  refine w_store rfl rfl hX12 rfl rfl (by decide) (by simp) fun h13 hX13 hE13 hn13=>?_
  replace hX13:Own h13 iX [.nils,.nils,.int .i64 self,.int .i64 next,.int .i64 (.ofNat 0),.int .u8 (.ofNat 4),.int .i64 (.ofNat 7),.int .i64 (.ofNat r),ws]:=hX13
  have hEE:=hE12.trans hE13
  have E13:Ext h0 h13:=E11.step hEE fun q hq=>by simp at hq;exact .inr (by have:=E8.1;omega)
  have hR13:=hR.ext hEE (by simp;omega)
  have hws13:=hws.ext hEE (fun q hq hm=>by simp at hm;have:=hws.rs.lt q hq;have:=hws0 q hq;omega)
  repeat' (first|refine w_seq ?_|refine w_reg ?_|refine w_e ?_)
  refine w_loadA rfl (hX13.at rfl) rfl ?_
  refine w_store rfl rfl hR13 rfl (by show allOne [.nils,.nils,.int .i64 self,.int .i64 next,.int .i64 (.ofNat 0),.int .u8 (.ofNat 4),.int .i64 (.ofNat 7),.int .i64 (.ofNat r),ws]=true;simp only [allOne,ow];rfl) (by decide) (by simp) fun h14 hR14 hE14 hn14=>?_
  replace hR14:Own h14 iR [.nils,.nils,.int .i64 self,.int .i64 next,.int .i64 (.ofNat 0),.int .u8 (.ofNat 4),.int .i64 (.ofNat 7),.int .i64 (.ofNat r),ws]:=hR14
  have E14:Ext h0 h14:=E13.step hE14 fun q hq=>by simp at hq;exact .inr (by omega)
  have hws14:=hws13.ext hE14 (fun q hq hm=>by simp at hm;have:=nws q hq;have:=E7.1;omega)
  repeat' (first|refine w_e ?_|refine w_opk rfl rfl ?_|refine w_ret ?_)
  exact w_rt (l:=[.agg [.nils,.nils,.int .i64 self,.int .i64 next,.int .i64 (.ofNat 0),.int .u8 (.ofNat 4),.int .i64 (.ofNat 7),.int .i64 (.ofNat r),ws],.int .i64 (.ofNat 0)]) (tail9 hR14 rfl rfl rfl) ⟨_,rfl,⟨.nils,.nils,ws,[],[],lcs,rfl,⟨RS.nils _ _,by simp [slIds]⟩,rfl,fun i a b h=>by simp at h,⟨RS.nils _ _,by simp [slIds]⟩,All2.nil _,⟨hws14.rs,fun q hq=>.inr (by have:=nws q hq;have:=E7.1;omega)⟩,hss.ext E14 (by simp) fun q hq _=>.inl hq,by simp,by simp,by have:=hpr.2.1;show state.length≤_;omega⟩,E14⟩
 ·have hil:i<p.on.length:=(List.getElem?_eq_some_iff.1 hio).1
  have hiv:p.on[i]=o:=(List.getElem?_eq_some_iff.1 hio).2
  have eb:begT M r p state tag args self next=⟨[framedT M o.fn.toNat (state++args)],[],self,next,0,0,0,r,state⟩:=by
   unfold begT
   rw [show (p.on.find? fun o=>decide (o.tag=tag) && decide (o.params=(args.length:Int)))=some o from hf]
  rw [eb]
  have cge:iLt (Int.ofNat i) (Int.ofNat 0)=false:=by cases i <;> rfl
  obtain ⟨q1,q2,q3,q4,q5⟩:=hpr.2.2.1 o (List.mem_of_getElem? hio)
  obtain ⟨k,hk⟩:∃ k:Nat,o.fn=Int.ofNat k:=⟨o.fn.toNat,(Int.toNat_of_nonneg q1).symm⟩
  have hkt:o.fn.toNat=k:=by rw [hk];rfl
  have hkM:k<M.fns.length:=by
   have:o.fn<M.fns.length:=q2
   rw [hk] at this
   have h2:(k:Int)<M.fns.length:=this
   omega
  have hkf:k<lfn.length:=by omega
  rw [hkt]
  have hF:=List.getElem?_eq_getElem hkM
  have hFk:=hM.fs _ _ hF
  obtain ⟨cv,efn,rcv⟩:=a3.get hkf hkM
  obtain ⟨nv,hnv⟩:∃ nv:Nat,M.fns[k].vars=Int.ofNat nv:=⟨M.fns[k].vars.toNat,(Int.toNat_of_nonneg (by have:=hFk.1;have:=hFk.2.1;omega)).symm⟩
  rw [hnv] at efn
  have hnv30:nv≤30:=by
   have h1:=hFk.2.2.1
   rw [hnv] at h1
   have h2:(nv:Int)≤30:=h1
   omega
  have hil2:i<(p.on.map onC).length:=by rw [List.length_map];exact hil
  have hSr:=slot_at rr4 hrk2
  rw [epr] at hSr
  have hSo:=slot_at rov11 hil2
  rw [List.getElem_map,hiv,show onC o=[.str o.tag,.int .i64 o.params,.int .i64 (.ofNat k)] by unfold onC;rw [hk]] at hSo
  have hmo:allOne [cs,ts,fns,rs]=true:=hms.2
  repeat' (first|refine w_seq ?_|refine w_reg ?_|refine w_e ?_|refine w_opk rfl rfl ?_|refine w_cond_f rfl ?_|refine w_skip ?_)
  refine w_loadA rfl (hA.at rfl) rfl ?_
  repeat' (first|refine w_rf rfl (by assumption) (by rfl) (by rfl) (by rfl) ?_|refine w_opk rfl rfl ?_)
  refine w_iadrS rfl rfl rr4 hrk2 ?_
  refine w_fadr rfl hSr rfl fun hSr2=>?_
  refine w_load1 (c:=[]) rfl hSr2 rfl ?_
  repeat' (first|refine w_opk rfl rfl ?_)
  refine w_iadrS rfl rfl rov11 hil2 ?_
  refine w_fadr rfl hSo rfl fun hSo2=>?_
  refine w_load1 (c:=[]) rfl hSo2 rfl ?_
  repeat' (first|refine w_fl rfl (by assumption) (by rfl) (by rfl) (by rfl) ?_|refine w_opk rfl rfl ?_)
  refine w_callA [sv] rfl ((cloneVal_ok hO.cl (hsv.1.ext0 E11) (by have:=hpr.2.1;omega)).mono fun ws2 h12 ⟨hws2,hE12,nws2⟩=>?_)
  have rr12:=rr4.ext0 hE12
  have rov12:=rov11.ext0 hE12
  have hS12:=slot_at rr12 hrk2
  rw [epr] at hS12
  have hT12:=slot_at rov12 hil2
  rw [List.getElem_map,hiv,show onC o=[.str o.tag,.int .i64 o.params,.int .i64 (.ofNat k)] by unfold onC;rw [hk]] at hT12
  refine w_chk1 rfl rfl ((hV.ext0 hE12).at rfl) (V.beq_refl _) ?_
  refine w_chk1 rfl rfl (hT12.fadr (d:=2) (by simp)) (V.beq_refl _) ?_
  refine w_chk1 rfl rfl (hS12.fadr (d:=2) (by simp)) (V.beq_refl _) ?_
  refine w_chk1 rfl rfl (((hA.ext0 hE12).at (hi:=4) rfl).fadr (d:=3) (by simp)) (V.beq_refl _) ?_
  refine w_chkA (c:=[cs,ts,fns,rs]) rfl rfl ((hA.ext0 hE12).at rfl) (by simp) (V.beqL_refl _) ?_
  refine w_app rfl rfl hws2 ((hav.1.ext0 E11).ext0 hE12) (by have:=hpr.2.1;omega) fun w2 h13 hw2 hf2=>?_
  have E1213:Ext h11 h13:=hE12.step hf2.1 fun q hq=>.inr (nws2 q hq)
  have rr13:=rr4.ext0 E1213
  have rov13:=rov11.ext0 E1213
  have hS13:=slot_at rr13 hrk2
  rw [epr] at hS13
  have hT13:=slot_at rov13 hil2
  rw [List.getElem_map,hiv,show onC o=[.str o.tag,.int .i64 o.params,.int .i64 (.ofNat k)] by unfold onC;rw [hk]] at hT13
  refine w_chk1 rfl rfl (hT13.fadr (d:=2) (by simp)) (V.beq_refl _) ?_
  refine w_chk1 rfl rfl (hS13.fadr (d:=2) (by simp)) (V.beq_refl _) ?_
  refine w_chk1 rfl rfl (((hA.ext0 E1213).at (hi:=4) rfl).fadr (d:=3) (by simp)) (V.beq_refl _) ?_
  refine w_chkA (c:=[cs,ts,fns,rs]) rfl rfl ((hA.ext0 E1213).at rfl) (by simp) (V.beqL_refl _) ?_
  have rf13:=((r3.1.ext0 hE5).ext0 (((hE6.trans hE7).trans hE8).trans E810)).ext0 (hE11.trans E1213)
  have hll:(lcs++lca).length=state.length+args.length:=by rw [List.length_append];omega
  have E13:=E11.trans E1213
  refine w_callA [.agg [cs,ts,fns,rs],.int .i64 (.ofNat k),w2] rfl ((framed_ok hO.fr hO.cl hmo rf13 hkf ⟨_,_,_,efn⟩ hw2.rs (by have:=hpr.2.1;omega) (by omega)).mono fun _ h14 ⟨w,e,hw,nw,hE14⟩=>?_)
  subst e
  have E14:=E13.trans hE14
  have ow1:=hw.rs.one
  refine w_bslice [[.int .i64 (.ofNat k),.int .i64 0,w,.nils]] rfl (by simp only [fillP,V.cells,allOne,ow1];rfl) rfl rfl (by simp) fun fv h15 hfv hf15=>?_
  have of:=hfv.rs.one
  have E15e:Ext h14 h15:=hf15.1.mono (by simp [slIds])
  have hX15:=((hX10.ext0 E1213).ext0 hE14).ext0 E15e
  repeat' (first|refine w_opk rfl rfl ?_)
  refine w_store rfl rfl hX15 (by rw [V.cells1 of];rfl) (by rw [V.cells1 of];simp only [allOne,of]) (by decide) (by simp) fun h16 hX16 hE16 hn16=>?_
  rw [V.cells1 of] at hX16
  replace hX16:Own h16 iX [fv,.nils,.int .i64 self,.int .i64 next,.int .i64 (.ofNat 0),.int .u8 (.ofNat 0),.int .i64 (.ofNat 0),.int .i64 (.ofNat r),ws]:=hX16
  have E15:=E14.trans E15e
  have nfv:∀ q∈slIds fv,h14.n≤q:=fun q hq=>by
   rcases hf15.2 q hq with e | e
   ·simp [slIds] at e
   ·exact e
  have nx:=hX10.1
  have n1113:=E1213.1
  have n1314:=hE14.1
  have E16:Ext h0 h16:=E15.step hE16 fun q hq=>by simp at hq;exact .inr (by have:=E8.1;omega)
  have hR16:=(((hR.ext0 E1213).ext0 hE14).ext0 E15e).ext hE16 (by simp;omega)
  have hfv16:=hfv.ext hE16 (fun q hq hm=>by simp at hm;have:=nfv q hq;omega)
  have hw16:=(hw.ext0 E15e).ext hE16 (fun q hq hm=>by simp at hm;have:=nw q hq;omega)
  have hws16:=(((hws.ext0 E1213).ext0 hE14).ext0 E15e).ext hE16 (fun q hq hm=>by simp at hm;have:=hws0 q hq;omega)
  repeat' (first|refine w_seq ?_|refine w_reg ?_|refine w_e ?_)
  refine w_loadA rfl (hX16.at rfl) rfl ?_
  refine w_store rfl rfl hR16 rfl (by show allOne [fv,.nils,.int .i64 self,.int .i64 next,.int .i64 (.ofNat 0),.int .u8 (.ofNat 0),.int .i64 (.ofNat 0),.int .i64 (.ofNat r),ws]=true;simp only [allOne,ow,of];rfl) (by decide) (by simp) fun h17 hR17 hE17 hn17=>?_
  replace hR17:Own h17 iR [fv,.nils,.int .i64 self,.int .i64 next,.int .i64 (.ofNat 0),.int .u8 (.ofNat 0),.int .i64 (.ofNat 0),.int .i64 (.ofNat r),ws]:=hR17
  have E17:Ext h0 h17:=E16.step hE17 fun q hq=>by simp at hq;exact .inr (by omega)
  have n811:h8.n≤h11.n:=by have:=E810.1;have:=hE11.1;omega
  have hfv17:=hfv16.ext hE17 (fun q hq hm=>by simp at hm;have:=nfv q hq;omega)
  have hw17:=hw16.ext hE17 (fun q hq hm=>by simp at hm;have:=nw q hq;omega)
  have hws17:=hws16.ext hE17 (fun q hq hm=>by simp at hm;have:=nws q hq;omega)
  have hz17:∀ q,Z q→q<h0.n→Z q∨h0.n≤q:=fun q hq _=>.inl hq
  have hvs:VasR (fun i=>Z i∨h0.n≤i) h17 (framedT M k (state++args)).vars (lcs++lca++List.replicate (nv - (lcs++lca).length) zeroC):=by
   show VasR _ _ ((state++args)++List.replicate (((M.fns[k]?).map fun f=>f.vars.toNat).getD 0 - (state++args).length) (numV' 0)) _
   rw [hF,hll,List.length_append]
   show VasR _ _ ((state++args)++List.replicate (M.fns[k].vars.toNat - (state.length+args.length)) (numV' 0)) _
   rw [hnv]
   exact ((hss.ext E17 (by simp) hz17).append (haa.ext E17 (by simp) hz17)).append (VasR.rep (VaR.num 1 0) _)
  have hvlen:(framedT M k (state++args)).vars.length≤2097152:=by
   rw [← hvs.len,List.length_append,List.length_replicate,hll]
   have:=hpr.2.1
   omega
  repeat' (first|refine w_e ?_|refine w_opk rfl rfl ?_|refine w_ret ?_)
  refine w_rt (l:=[.agg [fv,.nils,.int .i64 self,.int .i64 next,.int .i64 (.ofNat 0),.int .u8 (.ofNat 0),.int .i64 (.ofNat 0),.int .i64 (.ofNat r),ws],.int .i64 (.ofNat 0)]) (tail9 hR17 rfl rfl rfl) ⟨_,rfl,⟨fv,.nils,ws,_,[],lcs,rfl,⟨hfv17.rs,fun q hq=>.inr (by have:=nfv q hq;have:=E14.1;omega)⟩,rfl,fun i a b h1 h2=>?_,⟨RS.nils _ _,by simp [slIds]⟩,All2.nil _,⟨hws17.rs,fun q hq=>.inr (by have:=nws q hq;have:=E7.1;omega)⟩,hss.ext E17 (by simp) hz17,by simp,by simp,by have:=hpr.2.1;show state.length≤_;omega⟩,E17⟩
  cases i with
  | succ i=>simp at h1
  | zero=>
   simp only [List.getElem?_cons_zero,Option.some.injEq] at h1 h2
   subst h1 h2
   exact ⟨w,.nils,_,[],rfl,⟨hw17.rs,fun q hq=>.inr (by have:=nw q hq;have:=E13.1;omega)⟩,hvs,⟨RS.nils _ _,by simp [slIds]⟩,VasR.nil _ _,hvlen,by simp [framedT]⟩
end AmT
