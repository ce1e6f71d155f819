/-
  The interpreter under the abstract machine, part IF. Conditions: those that each theorem states.
-/
import Derived.Test.YtfiajgdgjajcnaaGreatDoorIE
import Derived.Test.YtfiajgdgjajcnaaGreatDoorIB
import Derived.Test.YtfiajgdgjajcnaaGreatDoorIA
import Derived.Test.YtfiajgdgjajcnaaGreatDoorW
set_option linter.unusedSimpArgs false
set_option linter.unusedVariables false
namespace AmT
open Go Am
set_option maxRecDepth 100000
set_option maxHeartbeats 8000000
variable {O:CallF}
structure OffCk (O:CallF):Prop extends OffVR O where
 ck:∀ a h,O 32 a h=none
 pt:∀ a h,O 75 a h=none
 lm:∀ a h,O 137 a h=none
 ft:∀ a h,O 77 a h=none
theorem limit_ok (hO:OffCk O) {Z:Nat→Prop} {h0:Heap} {mc fc:List V} {M:ModA} {F:FnA} {o:Int} (hm:ModR Z h0 mc M) (hf:FnR Z h0 fc F) (h1:0≤o) (h2:o≤255) :
  WPc tab.get O 137 [.agg mc,.agg fc,.int .u8 o] h0 (fun v h'=>v=.int .i64 (lim M F o)∧Ext h0 h'):=by
 have hs:=hm.shape
 refine w_fn' (hO.lm _ _) rfl rfl (by simp only [c137,initV,nth] <;> rfl) ?_
 refine w_seq (w_reg (w_box rfl hs.1 hs.2 fun iA g1 hA hiA hE1=>?_))
 obtain ⟨cs,ts,fns,rs,lc,lfn,lr,rfl,r1,v1,r2,r3,a3,r4,a4⟩:=hm
 obtain ⟨cv,rfl,rc⟩:=hf
 have ocv:=rc.1.one
 refine w_box rfl rfl (by show allOne [.str F.name,.int .i64 F.params,.int .i64 F.vars,cv]=true;simp only [allOne,ocv];rfl) fun iB g2 hB hiB hE2=>?_
 replace hA:Own g2 iA [cs,ts,fns,rs]:=hA.ext0 hE2
 replace hB:Own g2 iB [.str F.name,.int .i64 F.params,.int .i64 F.vars,cv]:=hB
 have E2:=hE1.trans hE2
 have q1:=r1.1.ext0 E2
 have q2:=r2.1.ext0 E2
 have q3:=r3.1.ext0 E2
 have q4:=r4.1.ext0 E2
 have q5:=rc.1.ext0 E2
 have n1:=v1.len
 have n3:=a3.1
 have n4:=a4.1
 obtain ⟨n,rfl⟩:∃ n:Nat,o=Int.ofNat n:=⟨o.toNat,(Int.toNat_of_nonneg h1).symm⟩
 replace h2:(n:Int)≤255:=h2
 have hfin:∀ k:Int,k=lim M F (Int.ofNat n)→V.int .i64 k=.int .i64 (lim M F (Int.ofNat n)):=fun k e=>by rw [e]
 repeat' (first|refine w_seq ?_|refine w_reg ?_|refine w_e ?_|refine w_opk rfl rfl ?_)
 refine w_block ?_
 repeat' (first|refine w_seq ?_|refine w_reg ?_|refine w_e ?_|refine w_off rfl ?_|refine w_rf rfl (by assumption) (by rfl) (by rfl) (by rfl) ?_|refine w_on rfl ?_|refine w_len rfl (by assumption) ?_|refine w_lssN rfl rfl (fun hc=>?_) (fun hc=>?_)|refine w_gtrN rfl rfl (fun hc=>?_) (fun hc=>?_)|refine w_eqlN rfl rfl (fun hc=>?_) (fun hc=>?_)|refine w_opk rfl rfl ?_|refine w_cond_t rfl ?_|refine w_cond_f rfl ?_|refine w_skip ?_|refine w_ret ?_|refine w_rt rfl ?_)
 all_goals
  refine ⟨hfin _ ?_,E2⟩
  rw [limN]
  repeat (first | rw [if_pos (by omega)] | rw [if_neg (by omega)])
  first | done | rfl | exact congrArg Int.ofNat n1 | exact congrArg Int.ofNat n3 | exact congrArg Int.ofNat n4 | exact congrArg Int.ofNat (List.length_map ..)
def HasI (h:Heap) (id:Nat) (fs:List Int):Prop:=OwM h id .i64 (onesI fs)
theorem parts_ok (hO:OffCk O) {Z:Nat→Prop} {h0:Heap} {mc:List V} {M:ModA} (hm:ModR Z h0 mc M) (hz:∀ i,Z i→i<h0.n) (ht:TyM M) :
  WPc tab.get O 75 [.agg mc] h0 (fun v h'=>(∃ b m,v=.tuple [m,.bool b]∧(b=true↔RolesX M M.roles)∧(b=true→∃ id,m=.map id∧HasI h' id (fnsOf M.roles)∧h0.n≤id))∧Ext h0 h'):=by
 have hs:=hm.shape
 refine w_fn' (hO.pt _ _) rfl rfl (by simp only [c75,initV,nth] <;> rfl) ?_
 refine w_seq (w_reg (w_box rfl hs.1 hs.2 fun iA h1 hA hiA hE1=>?_))
 obtain ⟨cs,ts,fns,rs,lc,lfn,lr,rfl,r1,v1,r2,r3,a3,r4,a4⟩:=hm
 replace hA:Own h1 iA [cs,ts,fns,rs]:=hA
 have hlr:=a4.1
 have hlf:=a3.1
 have hrl:=ht.rl
 have hfl:=ht.fl
 have fail:∀ h',Ext h0 h'→¬ RolesX M M.roles→(∃ b m,packV [.nilm,.bool false]=.tuple [m,.bool b]∧(b=true↔RolesX M M.roles)∧(b=true→∃ id,m=.map id∧HasI h' id (fnsOf M.roles)∧h0.n≤id))∧Ext h0 h':=fun h' e k=>⟨⟨false,.nilm,rfl,⟨fun q=>absurd q (by decide),fun q=>absurd q k⟩,fun q=>absurd q (by decide)⟩,e⟩
 repeat' (first|refine w_seq ?_|refine w_reg ?_|refine w_e ?_|refine w_opk rfl rfl ?_)
 refine w_mkI .i64 fun iM h2 hM2 hiM hE2=>?_
 have E2:=hE1.trans hE2
 have hA2:=hA.ext0 hE2
 have rr:=r4.1.ext0 E2
 have n1:=hE1.1
 have hAl:=hA.1
 repeat' (first|refine w_seq ?_|refine w_reg ?_|refine w_e ?_|refine w_rf rfl (by assumption) (by rfl) (by rfl) (by rfl) ?_|refine w_len rfl (by assumption) ?_|refine w_opk rfl rfl ?_)
 refine w_count (fun j vs h=>∃ b6 b8 b9 b10 b11 b12 b13 b14 b16 b17,(HasI h iM (fnsOf (M.roles.take j))∧RolesX M (M.roles.take j)∧ExtX [iM] h2 h)∧vs=[.agg [cs,ts,fns,rs],.nilm,.bool false,.ptr iA 0 0 4,.int .i64 (.ofNat j),.int .i64 (.ofNat lr.length),b6,rs,b8,b9,b10,b11,b12,b13,b14,.map iM,b16,b17]) lr.length ⟨_,_,_,_,_,_,_,_,_,_,⟨hM2,RolesX.nil,ExtX.refl _ _⟩,rfl⟩ ?_
 rintro j vs h hj ⟨b6,b8,b9,b10,b11,b12,b13,b14,b16,b17,⟨hMj,hRj,hE⟩,rfl⟩
 have rr':RS h 3 rs lr:=(r4.1.ext0 E2).ext hE (fun id off len ver e f hv hm=>by
  have h1:=r4.2 id (by rw [hv];simp [slIds])
  have:=hz _ h1
  simp at hm
  omega)
 have rf':RS h 4 fns lfn:=(r3.1.ext0 E2).ext hE (fun id off len ver e f hv hm=>by
  have h1:=r3.2 id (by rw [hv];simp [slIds])
  have:=hz _ h1
  simp at hm
  omega)
 have hAj:=hA2.ext hE (by simp;omega)
 have hEj:Ext h0 h:=E2.step hE fun q hq=>by simp at hq;exact .inr (by omega)
 clear rr hA2
 repeat' (first|refine w_seq ?_|refine w_reg ?_|refine w_e ?_|refine w_lssN rfl rfl (fun hc=>?_) (fun hc=>?_)|refine w_opk rfl rfl ?_|refine w_cond_t rfl ?_|refine w_cond_f rfl ?_|refine w_skip ?_|refine w_exit rfl ?_|refine w_ret ?_|refine w_rt rfl ?_)
 ·have hj1:j<lr.length:=by assumption
  have hj2:j<M.roles.length:=by omega
  obtain ⟨ov,epr,rov⟩:=a4.get hj1 hj2
  have htr:=ht.rs _ (List.getElem_mem hj2)
  have hS:=slot_at rr' hj1
  rw [epr] at hS
  have hov1:=rov.1.one
  have hno:RolesX M M.roles→RoleX M (fnsOf (M.roles.take j)) M.roles[j]:=fun k=>k j _ (List.getElem?_eq_getElem hj2)
  have hyes:=fun k=>hRj.snoc hj2 k
  have hsn:=fnsOf_snoc hj2
  generalize M.roles[j]=R at *
  refine w_block ?_
  repeat' (first|refine w_seq ?_|refine w_reg ?_)
  refine w_iadrS rfl rfl rr' hj1 ?_
  refine w_loadA rfl hS rfl ?_
  refine w_alloc fun iP h3 hP hiP hE3=>?_
  skip
  refine w_store rfl rfl hP rfl (by show allOne [.str R.name,.int .i64 R.params,ov]=true;simp only [allOne,hov1];rfl) (by decide) (by simp) fun h4 hP4 hE4 hn4=>?_
  replace hP4:Own h4 iP [.str R.name,.int .i64 R.params,ov]:=hP4
  have E4:Ext h h4:=hE3.step hE4 fun q hq=>by simp at hq;exact .inr (by omega)
  have hMl:=hMj.1
  have hM4:HasI h4 iM (fnsOf (M.roles.take j)):=hMj.ext0 E4
  repeat' (first|refine w_seq ?_|refine w_reg ?_|refine w_e ?_)
  refine w_mkSt fun iS h5 hS5 hiS hE5=>?_
  have E5:=E4.trans hE5
  have hP5:=hP4.ext0 hE5
  have hA5:=(hAj.ext0 E4).ext0 hE5
  have hM5:HasI h5 iM (fnsOf (M.roles.take j)):=hM4.ext0 hE5
  have rf5:=rf'.ext0 E5
  have rov5:RS h5 3 ov (R.on.map onC):=((rov.1.ext0 E2).ext hE (fun id off len ver e f hv hm=>by
   have h1:=rov.2 id (by rw [hv];simp [slIds])
   have:=hz _ h1
   simp at hm
   omega)).ext0 E5
  have nh:=hE.1
  have nh4:=E4.1
  have nh5:=hE5.1
  have hP4l:=hP4.1
  have hsx:∀ i∈slIds ov,i<h0.n:=fun i hi=>hz _ (rov.2 i hi)
  have hsf:∀ i∈slIds fns,i<h0.n:=fun i hi=>hz _ (r3.2 i hi)
  clear hP hP4 hE3 hE4 hM4 rov rr' hS hAj
  repeat' (first|refine w_seq ?_|refine w_reg ?_|refine w_e ?_|refine w_off rfl ?_|refine w_rf rfl (by assumption) (by rfl) (by rfl) (by rfl) ?_|refine w_rfg rfl rfl (by assumption) (by rfl) (by rfl) (by rfl) (by rfl) ?_|refine w_on rfl ?_|refine w_len rfl (by assumption) ?_|refine w_lss rfl rfl (fun hc=>?_) (fun hc=>?_)|refine w_gtr rfl rfl (fun hc=>?_) (fun hc=>?_)|refine w_opk rfl rfl ?_|refine w_cond_t rfl ?_|refine w_cond_f rfl ?_|refine w_skip ?_|refine w_ret ?_|refine w_rt rfl ?_)
  ·exact fail _ (hEj.trans E5) fun k=>by have:=(hno k).1;have hc':R.params<0:=hc;omega
  ·exact fail _ (hEj.trans E5) fun k=>by have:=(hno k).2.1;have hc':30<R.params:=hc;omega
  have hp0:0≤R.params:=by assumption
  have hp1:R.params≤30:=by assumption
  have hmap:(R.on.map onC).length=R.on.length:=List.length_map ..
  have hob:=htr.2.1
  refine w_count (fun k vs h'=>∃ b12 b14 b17,(HasI h' iM (fnsOf (M.roles.take j)++(R.on.take k).map fun o=>o.fn)∧OwS h' iS ((R.on.take k).map fun o=>o.tag)∧OnsX M R.params (fnsOf (M.roles.take j)) (R.on.take k)∧ExtX [iM,iS] h5 h')∧vs=[.agg [cs,ts,fns,rs],.nilm,.bool false,.ptr iA 0 0 4,.int .i64 (.ofNat j),.int .i64 (.ofNat lr.length),.bool true,rs,.ptr iP 0 0 3,.bool false,.int .i64 (.ofNat k),.int .i64 (.ofNat (R.on.map onC).length),b12,ov,b14,.map iM,.map iS,b17]) (R.on.map onC).length ⟨_,_,_,⟨by simpa using hM5,hS5,OnsX.nil,ExtX.refl _ _⟩,rfl⟩ ?_
  rintro k vs h' hk ⟨b12,b14,b17,⟨hMk,hSk,hOk,hEk⟩,rfl⟩
  have nhk:=hEk.1
  have rov':RS h' 3 ov (R.on.map onC):=rov5.ext hEk (fun id off len ver e f hv hm=>by
   have:=hsx id (by rw [hv];simp [slIds])
   simp at hm
   omega)
  have rfk:RS h' 4 fns lfn:=rf5.ext hEk (fun id off len ver e f hv hm=>by
   have:=hsf id (by rw [hv];simp [slIds])
   simp at hm
   omega)
  have hPk:=hP5.ext hEk (by simp;omega)
  have hAk:=hA5.ext hEk (by simp;omega)
  repeat' (first|refine w_seq ?_|refine w_reg ?_|refine w_e ?_|refine w_lssN rfl rfl (fun hc=>?_) (fun hc=>?_)|refine w_addN rfl rfl (by omega) ?_|refine w_opk rfl rfl ?_|refine w_cond_t rfl ?_|refine w_cond_f rfl ?_|refine w_skip ?_|refine w_exit rfl ?_)
  ·have hk1:k<(R.on.map onC).length:=by assumption
   have hk2:k<R.on.length:=by omega
   have hS':=slot_at rov' hk1
   rw [List.getElem_map] at hS'
   have hto:=htr.2.2 _ (List.getElem_mem hk2)
   have hno2:RoleX M (fnsOf (M.roles.take j)) R→OnX M R.params (fnsOf (M.roles.take j)++(R.on.take k).map fun o=>o.fn) ((R.on.take k).map fun o=>o.tag) R.on[k]:=fun q=>q.2.2 k _ (List.getElem?_eq_getElem hk2)
   have hsn2:=fun q=>hOk.snoc hk2 q
   have hsn3:(R.on.take (k+1)).map (fun o=>o.fn)=(R.on.take k).map (fun o=>o.fn)++[R.on[k].fn]:=by rw [List.take_succ_eq_append_getElem hk2,List.map_append];rfl
   have hsn4:(R.on.take (k+1)).map (fun o=>o.tag)=(R.on.take k).map (fun o=>o.tag)++[R.on[k].tag]:=by rw [List.take_succ_eq_append_getElem hk2,List.map_append];rfl
   generalize R.on[k]=o at *
   obtain ⟨tg,op,fn⟩:=o
   refine w_block ?_
   repeat' (first|refine w_seq ?_|refine w_reg ?_)
   refine w_iadrS rfl rfl rov' hk1 ?_
   refine w_loadA rfl hS' rfl ?_
   refine w_alloc fun iO h6 hOo hiO hE6=>?_
   skip
   refine w_store rfl rfl hOo rfl rfl (by decide) (by simp) fun h7 hO7 hE7 hn7=>?_
   replace hO7:Own h7 iO [.str tg,.int .i64 op,.int .i64 fn]:=hO7
   have E7:Ext h' h7:=hE6.step hE7 fun q hq=>by simp at hq;exact .inr (by omega)
   have hM7:HasI h7 iM _:=hMk.ext0 E7
   have hS7:=hSk.ext0 E7
   have hP7:=hPk.ext0 E7
   have hA7:=hAk.ext0 E7
   have rf7:=rfk.ext0 E7
   have EE:Ext h0 h7:=((hEj.trans E5).step hEk fun q hq=>by simp at hq;exact .inr (by rcases hq with e | e <;> omega)).trans E7
   clear hOo hE6 hE7 hMk hSk hPk hAk rfk hS'
   repeat' (first|refine w_seq ?_|refine w_reg ?_|refine w_e ?_|refine w_off rfl ?_|refine w_rf rfl (by assumption) (by rfl) (by rfl) (by rfl) ?_|refine w_rfg rfl rfl (by assumption) (by rfl) (by rfl) (by rfl) (by rfl) ?_|refine w_on rfl ?_|refine w_len rfl (by assumption) ?_|refine w_lss rfl rfl (fun hc=>?_) (fun hc=>?_)|refine w_geq rfl rfl (fun hc=>?_) (fun hc=>?_)|refine w_opk rfl rfl ?_|refine w_cond_t rfl ?_|refine w_ret ?_|refine w_rt rfl ?_)
   ·exact fail _ EE fun k=>by have:=(hno2 (hno k)).1;have hc':fn<0:=hc;exact absurd this (Int.not_le.2 hc')
   ·exact fail _ EE fun k=>by have:fn<M.fns.length:=(hno2 (hno k)).2.1;have hc':(lfn.length:Int)≤fn:=hc;omega
   have hf0:0≤fn:=by assumption
   have hf1:fn<(lfn.length:Int):=by assumption
   refine w_lookI rfl rfl hM7 ?_
   rw [getI_ones]
   by_cases hmem:fn∈fnsOf (M.roles.take j)++(R.on.take k).map fun o=>o.fn
   ·rw [if_pos hmem]
    refine w_on rfl (w_opk (v:=.bool true) rfl rfl ?_)
    repeat' (first|refine w_seq ?_|refine w_reg ?_|refine w_e ?_|refine w_off rfl ?_|refine w_opk rfl rfl ?_|refine w_cond_t rfl ?_|refine w_ret ?_|refine w_rt rfl ?_)
    exact fail _ EE fun k=>(hno2 (hno k)).2.2.1 hmem
   rw [if_neg hmem]
   refine w_on rfl (w_opk (v:=.bool false) rfl rfl ?_)
   repeat' (first|refine w_rfg rfl rfl (by assumption) (by rfl) (by rfl) (by rfl) (by rfl) ?_|refine w_on rfl ?_|refine w_opk rfl rfl ?_)
   refine w_lookSt rfl rfl hS7 ?_
   by_cases hmt:tg∈(R.on.take k).map fun o=>o.tag
   ·rw [if_pos hmt]
    refine w_on rfl (w_opk (v:=.bool true) rfl rfl ?_)
    repeat' (first|refine w_seq ?_|refine w_reg ?_|refine w_e ?_|refine w_off rfl ?_|refine w_opk rfl rfl ?_|refine w_cond_t rfl ?_|refine w_ret ?_|refine w_rt rfl ?_)
    exact fail _ EE fun k=>(hno2 (hno k)).2.2.2.1 hmt
   rw [if_neg hmt]
   refine w_on rfl (w_opk (v:=.bool false) rfl rfl ?_)
   obtain ⟨n,rfl⟩:∃ n:Nat,fn=Int.ofNat n:=⟨fn.toNat,(Int.toNat_of_nonneg hf0).symm⟩
   have hnl:n<lfn.length:=by have:(n:Int)<lfn.length:=hf1;omega
   have hnl2:n<M.fns.length:=by omega
   obtain ⟨cv,epf,_⟩:=a3.get hnl hnl2
   have hSf:=slot_at rf7 hnl
   rw [epf] at hSf
   have hFp:((M.fns[(Int.ofNat n).toNat]?).map fun F=>F.params)=some M.fns[n].params:=by
    show ((M.fns[n]?).map fun F=>F.params)=_
    rw [List.getElem?_eq_getElem hnl2];rfl
   generalize M.fns[n].params=fp at *
   repeat' (first|refine w_seq ?_|refine w_reg ?_|refine w_e ?_|refine w_off rfl ?_|refine w_rfg rfl rfl (by assumption) (by rfl) (by rfl) (by rfl) (by rfl) ?_|refine w_on rfl ?_|refine w_lss rfl rfl (fun hc=>?_) (fun hc=>?_)|refine w_gtr rfl rfl (fun hc=>?_) (fun hc=>?_)|refine w_opk rfl rfl ?_|refine w_cond_t rfl ?_|refine w_ret ?_|refine w_rt rfl ?_)
   ·exact fail _ EE fun k=>by have:=(hno2 (hno k)).2.2.2.2.1;have hc':op<0:=hc;exact absurd this (Int.not_le.2 hc')
   ·exact fail _ EE fun k=>by have:=(hno2 (hno k)).2.2.2.2.2.1;have hc':30<op:=hc;exact absurd this (Int.not_le.2 hc')
   have ho0:0≤op:=by assumption
   have ho1:op≤30:=by assumption
   refine w_iadrS rfl rfl rf7 hnl ?_
   refine w_on rfl (w_fadr rfl hSf rfl fun hSf1=>?_)
   refine w_on rfl (w_load1 rfl hSf1 rfl ?_)
   repeat' (first|refine w_seq ?_|refine w_reg ?_|refine w_e ?_|refine w_rf rfl (by assumption) (by rfl) (by rfl) (by rfl) ?_|refine w_rfg rfl rfl (by assumption) (by rfl) (by rfl) (by rfl) (by rfl) ?_|refine w_on rfl ?_|refine w_neq rfl rfl (fun hc=>?_) (fun hc=>?_)|refine w_opk rfl rfl ?_|refine w_cond_t rfl ?_|refine w_cond_f rfl ?_|refine w_skip ?_|refine w_ret ?_|refine w_rt rfl ?_)
   all_goals have hw:wrapK IntKind.i64 (op.add R.params)=op+R.params:=by rw [wrapK_eq];show IntKind.i64.wrap (op+R.params)=_;exact wrap_i64_of (by omega) (by omega)
   ·exact fail _ EE fun k=>by
     have k7:=(hno2 (hno k)).2.2.2.2.2.2
     have hc':fp≠wrapK IntKind.i64 (op.add R.params):=by assumption
     rw [hFp] at k7
     rw [hw] at hc'
     exact hc' (Option.some.inj k7)
   have hfe:fp=op+R.params:=by rw [← hw];assumption
   have hX:OnX M R.params (fnsOf (M.roles.take j)++(R.on.take k).map fun o=>o.fn) ((R.on.take k).map fun o=>o.tag) ⟨tg,op,Int.ofNat n⟩:=
    ⟨hf0,by show (n:Int)<_;omega,hmem,hmt,ho0,ho1,by rw [hFp,hfe]⟩
   refine w_mputI rfl rfl rfl hM7 fun h8 hM8 hE8 n8=>?_
   rw [show putI (Int.ofNat n) (.int .i64 (.ofNat 1)) (onesI (fnsOf (M.roles.take j)++(R.on.take k).map fun o=>o.fn))=_ from putI_ones hmem] at hM8
   have hO8:=hO7.ext hE8 (by simp;omega)
   have hS8:=hS7.ext hE8 (by simp;omega)
   refine w_chk1 rfl rfl (hO8.at (hi:=3) rfl) (V.beq_refl _) ?_
   refine w_mputSt rfl rfl rfl hS8 hmt fun h9 hS9 hE9 n9=>?_
   have hM9:=hM8.ext hE9 (by simp;omega)
   repeat' (first|refine w_reg ?_|refine w_e ?_|refine w_addN rfl rfl (by omega) ?_|refine w_opk rfl rfl ?_)
   refine ⟨hk1,_,_,_,⟨?_,?_,hsn2 hX,(hEk.trans (E7.mono (by simp))).trans ((hE8.mono (by simp)).trans (hE9.mono (by simp)))⟩,rfl⟩
   ·rw [hsn3,← List.append_assoc];exact hM9
   ·rw [hsn4];exact hS9
  ·have hkk:k=R.on.length:=by omega
   rw [hkk,List.take_length] at hMk hOk
   rw [← hsn] at hMk
   exact ⟨hj1,_,_,_,_,_,_,_,_,_,_,⟨hMk,hyes ⟨hp0,hp1,hOk⟩,(hE.trans (E5.mono (by simp))).step hEk fun q hq=>by simp at hq;rcases hq with e | e <;> simp [e] <;> omega⟩,rfl⟩
 ·have hjj:j=M.roles.length:=by omega
  rw [hjj,List.take_length] at hMj hRj
  exact ⟨⟨true,.map iM,rfl,⟨fun _=>hRj,fun _=>rfl⟩,fun _=>⟨iM,rfl,hMj,by omega⟩⟩,hEj⟩
end AmT
namespace AmT
open Go Am
set_option maxRecDepth 100000
set_option maxHeartbeats 8000000
variable {O:CallF}
theorem fits_ok (hO:OffCk O) {Z:Nat→Prop} {h0:Heap} {mc fc:List V} {M:ModA} {F:FnA} {bd:Bool} {id:Nat} (hm:ModR Z h0 mc M) (hf:FnR Z h0 fc F) (hz:∀ i,Z i→i<h0.n) (ht:TyFn F) (hI:HasI h0 id (fnsOf M.roles)) :
  WPc tab.get O 77 [.agg mc,.agg fc,.bool bd,.map id] h0 (fun v h'=>(∃ b,v=.bool b∧(b=true↔FunX M bd F))∧Ext h0 h'):=by
 have hs:=hm.shape
 refine w_fn' (hO.ft _ _) rfl rfl (by simp only [c77,initV,nth] <;> rfl) ?_
 refine w_seq (w_reg (w_box rfl hs.1 hs.2 fun iA g1 hA hiA hE1=>?_))
 have hmm:=hm
 have hff:=hf
 obtain ⟨cv,rfl,rc⟩:=hf
 have ocv:=rc.1.one
 refine w_box rfl rfl (by show allOne [.str F.name,.int .i64 F.params,.int .i64 F.vars,cv]=true;simp only [allOne,ocv];rfl) fun iB g2 hB hiB hE2=>?_
 replace hA:Own g2 iA mc:=hA.ext0 hE2
 replace hB:Own g2 iB [.str F.name,.int .i64 F.params,.int .i64 F.vars,cv]:=hB
 have E2:=hE1.trans hE2
 have q5:=rc.1.ext0 E2
 have hmap:(F.code.map insC).length=F.code.length:=List.length_map ..
 have hcl:=ht.2.2.1
 have fail:∀ h',Ext h0 h'→¬ FunX M bd F→(∃ b,packV [.bool false]=.bool b∧(b=true↔FunX M bd F))∧Ext h0 h':=fun h' e k=>⟨⟨false,rfl,fun q=>absurd q (by decide),fun q=>absurd q k⟩,e⟩
 repeat' (first|refine w_seq ?_|refine w_reg ?_|refine w_e ?_|refine w_off rfl ?_|refine w_rf rfl (by assumption) (by rfl) (by rfl) (by rfl) ?_|refine w_rfg rfl rfl (by assumption) (by rfl) (by rfl) (by rfl) (by rfl) ?_|refine w_on rfl ?_|refine w_len rfl (by assumption) ?_|refine w_lssN rfl rfl (fun hc=>?_) (fun hc=>?_)|refine w_gtrN rfl rfl (fun hc=>?_) (fun hc=>?_)|refine w_lss rfl rfl (fun hc=>?_) (fun hc=>?_)|refine w_gtr rfl rfl (fun hc=>?_) (fun hc=>?_)|refine w_opk rfl rfl ?_|refine w_cond_t rfl ?_|refine w_cond_f rfl ?_|refine w_skip ?_|refine w_ret ?_|refine w_rt rfl ?_)
 ·exact fail _ E2 fun k=>by have:=k.1;have hc':F.params<0:=hc;omega
 ·exact fail _ E2 fun k=>by have:=k.2.1;omega
 ·exact fail _ E2 fun k=>by have:=k.2.2.1;have hc':30<F.vars:=hc;omega
 ·exact fail _ E2 fun k=>by have:=lastOk_pos k.2.2.2.2.1;omega
 ·exact fail _ E2 fun k=>by have:=k.2.2.2.1;omega
 have p0:0≤F.params:=by assumption
 have p1:F.params≤F.vars:=by assumption
 have p2:F.vars≤30:=by assumption
 have p3:1≤(F.code.map insC).length:=by assumption
 have p4:(F.code.map insC).length≤16384:=by assumption
 have nE:=E2.1
 refine w_count (fun k vs h=>∃ b10 b12 b14 b15 b16 b17 b18 b19 b20 b21 b22 b23,(Ext g2 h∧∀ i∈F.code.take k,InsX M F bd i)∧vs=[.agg mc,.agg [.str F.name,.int .i64 F.params,.int .i64 F.vars,cv],.bool bd,.map id,.bool false,.ptr iB 0 0 4,.int .i64 (.ofNat (F.code.map insC).length),.bool false,.int .i64 (.ofNat k),.int .i64 (.ofNat (F.code.map insC).length),b10,cv,b12,.ptr iA 0 0 4,b14,b15,b16,b17,b18,b19,b20,b21,b22,b23]) (F.code.map insC).length ⟨_,_,_,_,_,_,_,_,_,_,_,_,⟨ExtX.refl _ _,by simp⟩,rfl⟩ ?_
 rintro k vs h hk ⟨b10,b12,b14,b15,b16,b17,b18,b19,b20,b21,b22,b23,⟨hE,hOk⟩,rfl⟩
 have q5':=q5.ext0 hE
 have hA':=hA.ext0 hE
 have hB':=hB.ext0 hE
 have hI':HasI h id _:=(hI.ext0 E2).ext0 hE
 have hm':=hmm.ext (E2.trans hE) (Z':=Z) (by simp) fun _ q _=>q
 have hf':=hff.ext (E2.trans hE) (Z':=Z) (by simp) fun _ q _=>q
 have EE:=E2.trans hE
 repeat' (first|refine w_seq ?_|refine w_reg ?_|refine w_e ?_|refine w_rf rfl (by assumption) (by rfl) (by rfl) (by rfl) ?_|refine w_lssN rfl rfl (fun hc=>?_) (fun hc=>?_)|refine w_opk rfl rfl ?_|refine w_cond_t rfl ?_|refine w_cond_f rfl ?_|refine w_skip ?_|refine w_exit rfl ?_)
 ·have hk1:k<(F.code.map insC).length:=by assumption
  have hk2:k<F.code.length:=by omega
  have hS:=slot_at q5' hk1
  rw [List.getElem_map] at hS
  have hti:=ht.2.2.2 _ (List.getElem_mem hk2)
  have hno:FunX M bd F→InsX M F bd F.code[k]:=fun q=>q.2.2.2.2.2 _ (List.getElem_mem hk2)
  have hyes:InsX M F bd F.code[k]→∀ i∈F.code.take (k+1),InsX M F bd i:=fun q i hi=>by
   rw [List.take_succ_eq_append_getElem hk2] at hi
   rcases List.mem_append.1 hi with hi | hi
   ·exact hOk i hi
   ·rw [List.mem_singleton.1 hi];exact q
  generalize F.code[k]=i at *
  obtain ⟨op,a,b⟩:=i
  obtain ⟨to1,to2,ta,tb⟩:=hti
  obtain ⟨o,rfl⟩:∃ o:Nat,op=Int.ofNat o:=⟨op.toNat,(Int.toNat_of_nonneg to1).symm⟩
  refine w_block ?_
  repeat' (first|refine w_seq ?_|refine w_reg ?_)
  refine w_iadrS rfl rfl q5' hk1 ?_
  refine w_loadA rfl hS rfl ?_
  refine w_alloc fun iO h3 hOo hiO hE3=>?_
  skip
  refine w_store rfl rfl hOo rfl rfl (by decide) (by simp) fun h4 hO4 hE4 hn4=>?_
  replace hO4:Own h4 iO [.int .u8 (.ofNat o),.int .i64 a,.int .i64 b]:=hO4
  have E4:Ext h h4:=hE3.step hE4 fun q hq=>by simp at hq;exact .inr (by omega)
  have hA4:=hA'.ext0 E4
  have hB4:=hB'.ext0 E4
  have hI4:HasI h4 id _:=hI'.ext0 E4
  have hm4:=hm'.ext E4 (Z':=Z) (by simp) fun _ q _=>q
  have hf4:=hf'.ext E4 (Z':=Z) (by simp) fun _ q _=>q
  replace EE:=EE.trans E4
  clear hA' hB' hI' hm' hf' hE3 hE4 hOo hS q5'
  repeat' (first|refine w_seq ?_|refine w_reg ?_|refine w_e ?_|refine w_off rfl ?_|refine w_rf rfl (by assumption) (by rfl) (by rfl) (by rfl) ?_|refine w_rfg rfl rfl (by assumption) (by rfl) (by rfl) (by rfl) (by rfl) ?_|refine w_on rfl ?_|refine w_lss rfl rfl (fun hc=>?_) (fun hc=>?_)|refine w_opk rfl rfl ?_|refine w_cond_t rfl ?_|refine w_ret ?_|refine w_rt rfl ?_)
  ·exact fail _ EE fun k=>by have:=(hno k).1.2.2.1;have hc':a<0:=hc;exact absurd this (Int.not_le.2 hc')
  have ha0:0≤a:=by assumption
  refine w_loadA rfl (hA4.at hs.1) (by rw [hs.1];rfl) ?_
  rw [show List.take 4 mc=mc from List.take_of_length_le (by omega)]
  refine w_on rfl (w_loadA rfl (hB4.at rfl) rfl ?_)
  repeat' (first|refine w_rfg rfl rfl (by assumption) (by rfl) (by rfl) (by rfl) (by rfl) ?_|refine w_on rfl ?_)
  refine w_callA [.agg mc,.agg [.str F.name,.int .i64 F.params,.int .i64 F.vars,cv],.int .u8 (.ofNat o)] rfl ((limit_ok hO hm4 hf4 to1 to2).mono fun _ h5 ⟨e,hE5⟩=>?_)
  subst e
  have hO5:=hO4.ext0 hE5
  have hI5:HasI h5 id _:=hI4.ext0 hE5
  replace EE:=EE.trans hE5
  have E5:=E4.trans hE5
  clear hO4 hI4 hA4 hB4 hm4 hf4
  refine w_on rfl (w_chk1 rfl rfl ((hO5.at (hi:=3) rfl).fadr (d:=1) (by simp)) (V.beq_refl _) ?_)
  repeat' (first|refine w_seq ?_|refine w_reg ?_|refine w_e ?_|refine w_off rfl ?_|refine w_rf rfl (by assumption) (by rfl) (by rfl) (by rfl) ?_|refine w_rfg rfl rfl (by assumption) (by rfl) (by rfl) (by rfl) (by rfl) ?_|refine w_on rfl ?_|refine w_neqN rfl rfl (fun hc=>?_) (fun hc=>?_)|refine w_lss rfl rfl (fun hc=>?_) (fun hc=>?_)|refine w_gtr rfl rfl (fun hc=>?_) (fun hc=>?_)|refine w_geq rfl rfl (fun hc=>?_) (fun hc=>?_)|refine w_opk rfl rfl ?_|refine w_cond_t rfl ?_|refine w_cond_f rfl ?_|refine w_skip ?_|refine w_ret ?_|refine w_rt rfl ?_)
  ·exact fail _ EE fun k=>absurd (hno k).1.2.2.2.1 (Int.not_lt.2 (by assumption))
  ·exact fail _ EE fun k=>by have:=(hno k).1.2.2.2.2.1;have hc':b<0:=(by assumption);exact absurd this (Int.not_le.2 hc')
  ·exact fail _ EE fun k=>by have:=(hno k).1.2.2.2.2.2.1;have hc':255<b:=(by assumption);exact absurd this (Int.not_le.2 hc')
  ·exact fail _ EE fun k=>by have q:=(hno k).2 (by assumption);have hc':o≠24:=(by assumption);exact absurd (ofN.1 q) hc'
  all_goals
   have hb24:0<b→o=24:=fun q=>by
    first
     | assumption
     | (have hc':b≤0:=by assumption
        omega)
   have hb0:0≤b:=by assumption
   have hb1:b≤255:=by assumption
   have hlim:a<lim M F (Int.ofNat o):=by assumption
   have ho:=lim_rng (show 0<lim M F (Int.ofNat o) by omega)
   have hab:((a.toNat:Nat):Int)=a:=Int.toNat_of_nonneg ha0
   have hf22:o=22→a∈fnsOf M.roles→¬ FunX M bd F:=fun e q k=>by
    have k1:=(hno k).1.2.2.2.2.2.2.1 (ofN.2 e)
    have k2:=isBody_iff.2 (by rw [hab];exact q)
    rw [k1] at k2
    cases k2
   have hf33:o=33→bd=true→¬ FunX M bd F:=fun e q k=>by
    have k1:=(hno k).1.2.2.2.2.2.2.2.1 (ofN.2 e)
    rw [k1] at q
    cases q
   have hf34:(o=34∨o=26∨o=25)→bd=false→¬ FunX M bd F:=fun e q k=>by
    have k1:=(hno k).1.2.2.2.2.2.2.2.2 (by
     rcases e with e | e | e
     ·exact .inl (ofN.2 e)
     ·exact .inr (.inl (ofN.2 e))
     ·exact .inr (.inr (ofN.2 e)))
    rw [k1] at q
    cases q
   have hgo:(o=22→a∉fnsOf M.roles)→(o=33→bd=false)→((o=34∨o=26∨o=25)→bd=true)→∀ i∈F.code.take (k+1),InsX M F bd i:=fun g1 g2 g3=>hyes ⟨⟨by show (1:Int)≤(o:Int);omega,by show (o:Int)≤34;omega,ha0,hlim,hb0,hb1,fun e=>by
    cases hq:isBody M a.toNat with
    | false=>rfl
    | true=>exact absurd (by have:=isBody_iff.1 hq;rw [hab] at this;exact this) (g1 (ofN.1 e)),fun e=>g2 (ofN.1 e),fun e=>g3 (by
     rcases e with e | e | e
     ·exact .inl (ofN.1 e)
     ·exact .inr (.inl (ofN.1 e))
     ·exact .inr (.inr (ofN.1 e)))⟩,fun q=>ofN.2 (hb24 q)⟩
   have E5':=hE.trans E5
   clear hno hyes hOk
   refine w_block ?_
   cases bd
   all_goals (repeat' (first|refine w_seq ?_|refine w_reg ?_|refine w_e ?_|refine w_rf rfl (by assumption) (by rfl) (by rfl) (by rfl) ?_|refine w_eqlN rfl rfl (fun hc=>?_) (fun hc=>?_)|refine w_addN rfl rfl (by omega) ?_|refine w_opk rfl rfl ?_|refine w_cond_t rfl ?_|refine w_cond_f rfl ?_|refine w_skip ?_|refine w_ret ?_|refine w_rt rfl ?_))
   all_goals first
    | exact fail _ EE (hf33 (by assumption) rfl)
    | exact fail _ EE (hf34 (by omega) rfl)
    | exact ⟨hk1,_,_,_,_,_,_,_,_,_,_,_,_,⟨E5',hgo (fun q=>absurd q (by omega)) (fun q=>by first | rfl | omega) (fun q=>by first | rfl | omega)⟩,rfl⟩
    | skip
   all_goals
    refine w_lookI rfl rfl hI5 ?_
    rw [getI_ones]
    by_cases hmem:a∈fnsOf M.roles
    ·rw [if_pos hmem]
     refine w_opk (v:=.bool true) rfl rfl ?_
     repeat' (first|refine w_seq ?_|refine w_reg ?_|refine w_e ?_|refine w_opk rfl rfl ?_|refine w_cond_t rfl ?_|refine w_ret ?_|refine w_rt rfl ?_)
     exact fail _ EE (hf22 (by assumption) hmem)
    ·rw [if_neg hmem]
     refine w_opk (v:=.bool false) rfl rfl ?_
     repeat' (first|refine w_reg ?_|refine w_e ?_|refine w_addN rfl rfl (by omega) ?_|refine w_opk rfl rfl ?_|refine w_cond_f rfl ?_|refine w_skip ?_)
     exact ⟨hk1,_,_,_,_,_,_,_,_,_,_,_,_,⟨E5',hgo (fun _=>hmem) (fun q=>by omega) (fun q=>by omega)⟩,rfl⟩
 ·have hkk:k=F.code.length:=by omega
  rw [hkk,List.take_length] at hOk
  have hl1:(F.code.map insC).length - 1<(F.code.map insC).length:=by omega
  have hl2:(F.code.map insC).length - 1<F.code.length:=by omega
  have hS:=slot_at q5' hl1
  rw [List.getElem_map] at hS
  have hti:=ht.2.2.2 _ (List.getElem_mem hl2)
  have hla:F.code.getLast? = some F.code[(F.code.map insC).length - 1]:=by
   rw [List.getLast?_eq_getElem?,← hmap]
   exact List.getElem?_eq_getElem hl2
  generalize F.code[(F.code.map insC).length - 1]=i at *
  obtain ⟨op,a,b⟩:=i
  obtain ⟨to1,to2,ta,tb⟩:=hti
  obtain ⟨o,rfl⟩:∃ o:Nat,op=Int.ofNat o:=⟨op.toNat,(Int.toNat_of_nonneg to1).symm⟩
  have hlo:lastOk F.code↔(o=27∨o=33∨o=34∨o=26∨o=25):=by
   unfold lastOk
   rw [hla]
   show isLast (Int.ofNat o)↔_
   unfold isLast
   rw [show (Int.ofNat o=27)↔o=27 from ofN,show (Int.ofNat o=33)↔o=33 from ofN,show (Int.ofNat o=34)↔o=34 from ofN,show (Int.ofNat o=26)↔o=26 from ofN,show (Int.ofNat o=25)↔o=25 from ofN]
  have hno:FunX M bd F→(o=27∨o=33∨o=34∨o=26∨o=25):=fun k=>hlo.1 k.2.2.2.2.1
  have hyes:(o=27∨o=33∨o=34∨o=26∨o=25)→FunX M bd F:=fun k=>⟨p0,p1,p2,by omega,hlo.2 k,hOk⟩
  skip
  rw [show wrapK IntKind.i64 (Int.ofNat (F.code.map insC).length - Int.ofNat 1)=Int.ofNat ((F.code.map insC).length - 1) from by
   rw [wrapK_eq,show Int.ofNat (F.code.map insC).length - Int.ofNat 1=Int.ofNat ((F.code.map insC).length - 1) by
    show (((F.code.map insC).length:Nat):Int) - 1=(((F.code.map insC).length - 1:Nat):Int)
    omega]
   exact wrap_i64_nat (by omega)]
  refine w_iadrS rfl rfl q5' hl1 ?_
  refine w_fadr rfl hS rfl fun hS1=>?_
  refine w_load1 rfl hS1 rfl ?_
  repeat' (first|refine w_e ?_)
  refine w_block ?_
  repeat' (first|refine w_seq ?_|refine w_reg ?_|refine w_e ?_|refine w_eqlN rfl rfl (fun hc=>?_) (fun hc=>?_)|refine w_opk rfl rfl ?_|refine w_cond_t rfl ?_|refine w_cond_f rfl ?_|refine w_skip ?_|refine w_ret ?_|refine w_rt rfl ?_)
  all_goals first
   | exact fail _ EE fun k=>by have:=hno k;omega
   | exact ⟨⟨true,rfl,fun _=>hyes (by omega),fun _=>rfl⟩,EE⟩
end AmT
namespace AmT
open Go Am
set_option maxRecDepth 100000
set_option maxHeartbeats 8000000
variable {O:CallF}
theorem check_ok (hO:OffCk O) {Z:Nat→Prop} {h0:Heap} {mc:List V} {M:ModA} (hm:ModR Z h0 mc M) (hz:∀ i,Z i→i<h0.n) (ht:TyM M) :
  WPc tab.get O 32 [.agg mc] h0 (fun v h'=>(∃ e:Int,v=.int .i64 e∧(e=0↔ModX M))∧Ext h0 h'):=by
 have hs:=hm.shape
 refine w_fn' (hO.ck _ _) rfl rfl (by simp only [c32,initV,nth] <;> rfl) ?_
 refine w_seq (w_reg (w_box rfl hs.1 hs.2 fun iA h1 hA hiA hE1=>?_))
 have hmm:=hm
 obtain ⟨cs,ts,fns,rs,lc,lfn,lr,rfl,r1,v1,r2,r3,a3,r4,a4⟩:=hm
 replace hA:Own h1 iA [cs,ts,fns,rs]:=hA
 have q1:=r1.1.ext0 hE1
 have q2:=r2.1.ext0 hE1
 have q3:=r3.1.ext0 hE1
 have q4:=r4.1.ext0 hE1
 have hlr:=a4.1
 have hlf:=a3.1
 have hlc:=v1.len
 have hlt:(M.tags.map tagC).length=M.tags.length:=List.length_map ..
 have b1:=ht.cl
 have b2:=ht.tl
 have b3:=ht.fl
 have b4:=ht.rl
 have fail:∀ h',Ext h0 h'→¬ ModX M→(∃ e:Int,packV [.int .i64 (.ofNat 120)]=.int .i64 e∧(e=0↔ModX M))∧Ext h0 h':=fun h' e k=>⟨⟨_,rfl,fun q=>absurd q (by decide),fun q=>absurd q k⟩,e⟩
 repeat' (first|refine w_seq ?_|refine w_reg ?_|refine w_e ?_|refine w_rf rfl (by assumption) (by rfl) (by rfl) (by rfl) ?_|refine w_len rfl (by assumption) ?_|refine w_opk rfl rfl ?_)
 refine w_mx3 rfl rfl ?_
 repeat' (first|refine w_seq ?_|refine w_reg ?_|refine w_e ?_|refine w_gtrN rfl rfl (fun hc=>?_) (fun hc=>?_)|refine w_opk rfl rfl ?_|refine w_cond_t rfl ?_|refine w_cond_f rfl ?_|refine w_skip ?_|refine w_ret ?_|refine w_rt rfl ?_)
 ·exact fail _ hE1 fun k=>by have:=k.len;omega
 have hlen:M.consts.length≤4096∧M.tags.length≤4096∧M.fns.length≤4096∧M.roles.length≤4096:=by
  have:max (max (max lc.length (M.tags.map tagC).length) lfn.length) lr.length≤4096:=by assumption
  omega
 skip
 refine w_loadA rfl (hA.at rfl) rfl ?_
 refine w_callA [.agg [cs,ts,fns,rs]] rfl ((parts_ok hO (hmm.ext hE1 (Z':=Z) (by simp) fun _ q _=>q) (fun i hi=>by have:=hz i hi;have:=hE1.1;omega) ht).mono fun _ h2 ⟨⟨b,m,e,hb,hmap⟩,hE2⟩=>?_)
 subst e
 have E2:=hE1.trans hE2
 have hA2:=hA.ext0 hE2
 replace q1:=q1.ext0 hE2
 replace q3:=q3.ext0 hE2
 have v2:=v1.ext0 E2
 repeat' (first|refine w_seq ?_|refine w_reg ?_|refine w_e ?_|refine w_rf rfl (by assumption) (by rfl) (by rfl) (by rfl) ?_|refine w_len rfl (by assumption) ?_|refine w_opk rfl rfl ?_)
 refine w_count (fun j vs h=>∃ b6 b9 b10 b11 b12 b13 b14 b16 b17,∃ t:Bool,((t=true↔RolesX M M.roles∧∀ c∈M.consts.take j,cVal.ok c)∧Ext h2 h)∧vs=[.agg [cs,ts,fns,rs],.int .i64 (.ofNat 0),.ptr iA 0 0 4,.bool false,.int .i64 (.ofNat j),.int .i64 (.ofNat lc.length),b6,cs,.bool t,b9,b10,b11,b12,b13,b14,m,b16,b17]) lc.length ⟨_,_,_,_,_,_,_,_,_,b,⟨by simpa using hb,ExtX.refl _ _⟩,rfl⟩ ?_
 rintro j vs h hj ⟨b6,b9,b10,b11,b12,b13,b14,b16,b17,t,⟨ht1,hE⟩,rfl⟩
 have q1':=q1.ext0 hE
 have hA':=hA2.ext0 hE
 have E:=E2.trans hE
 repeat' (first|refine w_seq ?_|refine w_reg ?_|refine w_e ?_|refine w_rf rfl (by assumption) (by rfl) (by rfl) (by rfl) ?_|refine w_lssN rfl rfl (fun hc=>?_) (fun hc=>?_)|refine w_cond_t rfl ?_|refine w_cond_f rfl ?_|refine w_skip ?_|refine w_exit rfl ?_)
 ·have hj1:j<lc.length:=by assumption
  have hj2:j<M.consts.length:=by omega
  have ka:=(v2.get hj2 hj1).ext0 hE
  have hsh:=ka.shape
  have hrg:=(ht.cs _ (List.getElem_mem hj2)).1
  have hsn:(∀ c∈M.consts.take (j+1),cVal.ok c)↔(∀ c∈M.consts.take j,cVal.ok c)∧cVal.ok M.consts[j]:=by
   rw [List.take_succ_eq_append_getElem hj2]
   simp only [List.mem_append,List.mem_singleton,or_imp,forall_and,forall_eq]
  generalize M.consts[j]=a at *
  refine w_block ?_
  repeat' (first|refine w_seq ?_|refine w_reg ?_)
  refine w_iadrS rfl rfl q1' hj1 ?_
  refine w_loadA rfl (slot_at q1' hj1) (by rw [hsh.1];rfl) ?_
  rw [show List.take 4 lc[j]=lc[j] from List.take_of_length_le (by omega)]
  refine w_new (fun p=>rfl) hsh.1 rfl hsh.2 fun iX h3 hX hiX hE3=>?_
  cases t
  ·repeat' (first|refine w_reg ?_|refine w_e ?_|refine w_off rfl ?_|refine w_addN rfl rfl (by omega) ?_|refine w_opk rfl rfl ?_)
   exact ⟨hj1,_,_,_,_,_,_,_,_,_,false,⟨⟨fun q=>absurd q (by decide),fun q=>ht1.2 ⟨q.1,(hsn.1 q.2).1⟩⟩,hE.trans hE3⟩,rfl⟩
  ·repeat' (first|refine w_reg ?_|refine w_e ?_|refine w_on rfl ?_|refine w_opk rfl rfl ?_)
   refine w_loadA rfl (hX.at hsh.1) (by show Nat.ble 4 lc[j].length=true;rw [hsh.1];rfl) ?_
   rw [show List.take 4 (V.agg lc[j]).cells=lc[j] from List.take_of_length_le (by show lc[j].length≤4;omega)]
   refine w_on rfl (w_callA [.agg lc[j]] rfl ((vright_ok hO.toOffVR (ka.ext0 hE3) (fun i hi=>by have:=hz i hi;have:=E.1;have:=hE3.1;omega) hrg).mono fun _ h4 ⟨⟨r,e,hr⟩,hE4⟩=>?_))
   subst e
   repeat' (first|refine w_reg ?_|refine w_e ?_|refine w_addN rfl rfl (by omega) ?_|refine w_opk rfl rfl ?_)
   exact ⟨hj1,_,_,_,_,_,_,_,_,_,r,⟨⟨fun q=>⟨(ht1.1 rfl).1,hsn.2 ⟨(ht1.1 rfl).2,hr.1 q⟩⟩,fun q=>hr.2 (hsn.1 q.2).2⟩,hE.trans (hE3.trans hE4)⟩,rfl⟩
 have hjj:j=M.consts.length:=by omega
 rw [hjj,List.take_length] at ht1
 clear hj q1' q1
 have q3h:=q3.ext0 hE
 have nE:=E.1
 repeat' (first|refine w_e ?_|refine w_len rfl (by assumption) ?_|refine w_opk rfl rfl ?_)
 refine w_count (fun k vs h'=>∃ b12 b14 b16 b17,∃ u:Bool,((u=true↔(RolesX M M.roles∧∀ c∈M.consts,cVal.ok c)∧∀ (q:Nat) (F:FnA),M.fns[q]? = some F→q<k→FunX M (isBody M q) F)∧Ext h h')∧vs=[.agg [cs,ts,fns,rs],.int .i64 (.ofNat 0),.ptr iA 0 0 4,.bool false,.int .i64 (.ofNat j),.int .i64 (.ofNat lc.length),.bool false,cs,.bool u,b9,.int .i64 (.ofNat k),.int .i64 (.ofNat lfn.length),b12,fns,b14,m,b16,b17]) lfn.length ⟨_,_,_,_,t,⟨⟨fun q=>⟨ht1.1 q,fun _ _ _ q=>absurd q (Nat.not_lt_zero _)⟩,fun q=>ht1.2 q.1⟩,ExtX.refl _ _⟩,rfl⟩ ?_
 rintro k vs h' hk ⟨b12,b14,b16,b17,u,⟨hu,hEk⟩,rfl⟩
 have q3':=q3h.ext0 hEk
 have hAk:=hA'.ext0 hEk
 have EE:=E.trans hEk
 repeat' (first|refine w_seq ?_|refine w_reg ?_|refine w_e ?_|refine w_lssN rfl rfl (fun hc=>?_) (fun hc=>?_)|refine w_opk rfl rfl ?_|refine w_cond_t rfl ?_|refine w_cond_f rfl ?_|refine w_skip ?_|refine w_exit rfl ?_)
 ·have hk1:k<lfn.length:=by assumption
  have hk2:k<M.fns.length:=by omega
  have hS:=slot_at q3' hk1
  have hft:=ht.fs _ (List.getElem_mem hk2)
  have hfr0:=(a3.get hk1 hk2).ext EE (Z':=Z) (by simp) fun _ q _=>q
  have hsn:(∀ (q:Nat) (F:FnA),M.fns[q]? = some F→q<k+1→FunX M (isBody M q) F)↔(∀ (q:Nat) (F:FnA),M.fns[q]? = some F→q<k→FunX M (isBody M q) F)∧FunX M (isBody M k) M.fns[k]:=
   ⟨fun g=>⟨fun q F hF hq=>g q F hF (by omega),g k _ (List.getElem?_eq_getElem hk2) (by omega)⟩,fun g q F hF hq=>by
    by_cases e:q=k
    ·subst e
     rw [List.getElem?_eq_getElem hk2] at hF
     cases hF
     exact g.2
    ·exact g.1 q F hF (by omega)⟩
  generalize M.fns[k]=F at *
  have hfc:lfn[k].length=4∧allOne lfn[k]=true:=by
   obtain ⟨cv,e,r⟩:=hfr0
   rw [e]
   exact ⟨rfl,by simp only [allOne,r.1.one];rfl⟩
  refine w_block ?_
  repeat' (first|refine w_seq ?_|refine w_reg ?_|refine w_opk rfl rfl ?_)
  refine w_iadrS rfl rfl q3' hk1 ?_
  refine w_loadA rfl hS (by rw [hfc.1];rfl) ?_
  rw [show List.take 4 lfn[k]=lfn[k] from List.take_of_length_le (by omega)]
  refine w_alloc fun iX h3 hX hiX hE3=>?_
  repeat' (first|refine w_opk rfl rfl ?_)
  refine w_store rfl rfl hX hfc.1 hfc.2 (by decide) (by simp) fun h4 hX4 hE4 hn4=>?_
  replace hX4:Own h4 iX lfn[k]:=by
   have:splice [S0,N0,N0,V.nils] 0 lfn[k]=lfn[k]:=over_all (by rw [hfc.1];rfl)
   rw [← this];exact hX4
  have E4:Ext h' h4:=hE3.step hE4 fun q hq=>by simp at hq;exact .inr (by omega)
  cases u
  ·repeat' (first|refine w_reg ?_|refine w_e ?_|refine w_off rfl ?_|refine w_addN rfl rfl (by omega) ?_|refine w_opk rfl rfl ?_)
   exact ⟨hk1,_,_,_,_,false,⟨⟨fun q=>absurd q (by decide),fun q=>hu.2 ⟨q.1,(hsn.1 q.2).1⟩⟩,hEk.trans E4⟩,rfl⟩
  ·have hu1:=hu.1 rfl
   obtain ⟨id,rfl,hI,_⟩:=hmap (hb.2 hu1.1.1)
   have hI4:HasI h4 id _:=((hI.ext0 hE).ext0 hEk).ext0 E4
   have hA4:=hAk.ext0 E4
   repeat' (first|refine w_reg ?_|refine w_e ?_|refine w_on rfl ?_|refine w_opk rfl rfl ?_)
   refine w_loadA rfl (hA4.at rfl) rfl ?_
   refine w_on rfl (w_loadA rfl (hX4.at hfc.1) (by rw [hfc.1];rfl) ?_)
   rw [show List.take 4 lfn[k]=lfn[k] from List.take_of_length_le (by omega)]
   repeat' (first|refine w_on rfl ?_|refine w_opk rfl rfl ?_)
   refine w_lookI rfl rfl hI4 ?_
   rw [getI_ones]
   have hm4:=hmm.ext (EE.trans E4) (Z':=Z) (by simp) fun _ q _=>q
   have hf4:=hfr0.ext E4 (Z':=Z) (by simp) fun _ q _=>q
   have hz4:∀ i,Z i→i<h4.n:=fun i hi=>by have:=hz i hi;have:=EE.1;have:=E4.1;omega
   have hbd:(isBody M k=true∧Int.ofNat k∈fnsOf M.roles)∨(isBody M k=false∧¬ Int.ofNat k∈fnsOf M.roles):=by
    cases hq:isBody M k with
    | true=>exact .inl ⟨rfl,isBody_iff.1 hq⟩
    | false=>exact .inr ⟨rfl,fun e=>by rw [isBody_iff.2 e] at hq;cases hq⟩
   rcases hbd with ⟨eb,hmem⟩ | ⟨eb,hmem⟩
   ·rw [if_pos hmem]
    refine w_on rfl (w_opk (v:=.bool true) rfl rfl ?_)
    repeat' (first|refine w_on rfl ?_|refine w_opk rfl rfl ?_)
    refine w_callA [.agg [cs,ts,fns,rs],.agg lfn[k],.bool true,.map id] rfl ((fits_ok hO hm4 hf4 hz4 hft hI4).mono fun _ h5 ⟨⟨r,e,hr⟩,hE5⟩=>?_)
    subst e
    rw [eb] at hsn
    repeat' (first|refine w_reg ?_|refine w_e ?_|refine w_addN rfl rfl (by omega) ?_|refine w_opk rfl rfl ?_)
    exact ⟨hk1,_,_,_,_,r,⟨⟨fun q=>⟨hu1.1,hsn.2 ⟨hu1.2,hr.1 q⟩⟩,fun q=>hr.2 (hsn.1 q.2).2⟩,hEk.trans (E4.trans hE5)⟩,rfl⟩
   ·rw [if_neg hmem]
    refine w_on rfl (w_opk (v:=.bool false) rfl rfl ?_)
    repeat' (first|refine w_on rfl ?_|refine w_opk rfl rfl ?_)
    refine w_callA [.agg [cs,ts,fns,rs],.agg lfn[k],.bool false,.map id] rfl ((fits_ok hO hm4 hf4 hz4 hft hI4).mono fun _ h5 ⟨⟨r,e,hr⟩,hE5⟩=>?_)
    subst e
    rw [eb] at hsn
    repeat' (first|refine w_reg ?_|refine w_e ?_|refine w_addN rfl rfl (by omega) ?_|refine w_opk rfl rfl ?_)
    exact ⟨hk1,_,_,_,_,r,⟨⟨fun q=>⟨hu1.1,hsn.2 ⟨hu1.2,hr.1 q⟩⟩,fun q=>hr.2 (hsn.1 q.2).2⟩,hEk.trans (E4.trans hE5)⟩,rfl⟩
 ·have hkk:k=M.fns.length:=by omega
  cases u
  ·have hX:¬ ModX M:=fun q=>absurd (hu.2 ⟨⟨q.rs,q.cs⟩,fun k F hF _=>q.fs k F hF⟩) (by decide)
   repeat' (first|refine w_seq ?_|refine w_reg ?_|refine w_e ?_|refine w_opk rfl rfl ?_|refine w_cond_t rfl ?_|refine w_ret ?_|refine w_rt rfl ?_)
   exact fail _ EE hX
  ·have h1:=hu.1 rfl
   have hX:ModX M:=⟨hlen,h1.1.1,h1.1.2,fun q F hF=>h1.2 q F hF (by have:=(List.getElem?_eq_some_iff.1 hF).1;omega)⟩
   repeat' (first|refine w_seq ?_|refine w_reg ?_|refine w_e ?_|refine w_opk rfl rfl ?_|refine w_cond_f rfl ?_|refine w_skip ?_|refine w_ret ?_|refine w_rt rfl ?_)
   exact ⟨⟨_,rfl,fun _=>hX,fun _=>rfl⟩,EE⟩
end AmT
namespace AmT
open Go Am
set_option maxRecDepth 100000
set_option maxHeartbeats 8000000
variable {O:CallF}
def BegOk (M:ModA) (q:AskA):Prop:=ModX M∧∃ (r:Nat) (p:PartA),q.role=Int.ofNat r∧M.roles[r]? = some p∧p.params=(q.state.length:Int)∧(∀ a∈q.state,cVal.ok a)∧∀ a∈q.args,cVal.ok a
theorem beginBad_ok (hO:OffBg O) (hC:OffCk O) {Z:Nat→Prop} {h0:Heap} {mc:List V} {M:ModA} {q:AskA} {sv av:V} {lcs lca:List (List V)} (hzn:∀ i,Z i→i<h0.n) (hm:ModR Z h0 mc M) (ht:TyM M) (hq:TyAsk q)
  (hsv:RSz Z h0 4 sv lcs) (hss:VasR Z h0 q.state lcs) (hav:RSz Z h0 4 av lca) (haa:VasR Z h0 q.args lca) (hb:¬ BegOk M q) :
  WPc tab.get O 16 [.agg mc,.int .i64 q.role,sv,.str q.tag,av,.int .i64 q.self,.int .i64 q.next] h0 (fun w h'=>(∃ c e,w=.tuple [.agg c,.int .i64 e]∧e≠0∧c.length=9∧allOne c=true)∧Ext h0 h'):=by
 have hms:=hm.shape
 have os:=hsv.1.one
 have oa:=hav.1.one
 refine w_fn' (hO.bg _ _) rfl rfl (by simp only [c16,initV,nth] <;> rfl) ?_
 refine w_seq (w_reg (w_box rfl hms.1 hms.2 fun iA h1 hA hiA hE1=>?_))
 refine w_box rfl rfl rfl fun iT h2 hT hiT hE2=>?_
 refine w_box rfl (by rw [V.cells1 oa];rfl) (by rw [V.cells1 oa];simp only [allOne,oa]) fun iV h3 hV hiV hE3=>?_
 refine w_alloc fun iR h4 hR hiR hE4=>?_
 have E4:=((hE1.trans hE2).trans hE3).trans hE4
 have n1:=hE1.1
 have n2:=hE2.1
 have n3:=hE3.1
 have n4:=hE4.1
 rw [V.cells1 oa] at hV
 replace hA:Own h4 iA mc:=((hA.ext0 hE2).ext0 hE3).ext0 hE4
 replace hV:Own h4 iV [av]:=hV.ext0 hE4
 have hRl:=hR.1
 have e4:List.take 4 mc=mc:=List.take_of_length_le (by omega)
 have hm4:=hm.ext E4 (Z':=Z) (by simp) fun j hj _=>hj
 have fin:∀ (h:Heap) (e:Int),e≠0→Ext h0 h→(∃ c e',packV [.agg [V.nils,V.nils,nI 0,nI 0,nI 0,nB 0,nI 0,nI 0,V.nils],.int .i64 e]=.tuple [.agg c,.int .i64 e']∧e'≠0∧c.length=9∧allOne c=true)∧Ext h0 h:=fun h e he hE=>⟨⟨_,_,rfl,he,rfl,rfl⟩,hE⟩
 repeat' (first|refine w_seq ?_|refine w_reg ?_|refine w_e ?_|refine w_opk rfl rfl ?_)
 refine w_loadA rfl (hA.at hms.1) (by rw [hms.1];rfl) ?_
 rw [e4]
 refine w_callA [.agg mc] rfl ((check_ok hC hm4 (fun i hi=>by have:=hzn i hi;omega) ht).mono fun _ h5 ⟨⟨e,ev,he⟩,hE5⟩=>?_)
 subst ev
 have E5:=E4.trans hE5
 have hA5:=hA.ext0 hE5
 have hV5:=hV.ext0 hE5
 have hR5:=hR.ext0 hE5
 have n5:=hE5.1
 by_cases hX:ModX M
 ·obtain rfl:=he.2 hX
  have hm5:=hm4.ext hE5 (Z':=Z) (by simp) fun j hj _=>hj
  have hss5:=(hss.ext0 E5)
  have haa5:=(haa.ext0 E5)
  have rsv:=hsv.1.ext0 E5
  have rav:=hav.1.ext0 E5
  have hls:=hss.len
  have hla:=haa.len
  obtain ⟨cs,ts,fns,rs,lc,lfn,lr,rfl,r1,v1,r2,r3,a3,r4,a4⟩:=hm5
  have hlr:=a4.1
  have rr4:=r4.1
  have bs:=hq.s.1
  have ba:=hq.a.1
  repeat' (first|refine w_seq ?_|refine w_reg ?_|refine w_e ?_|refine w_opk rfl rfl ?_|refine w_cond_f rfl ?_|refine w_skip ?_)
  rw [show iNot (iEq 0 (Int.ofNat 0))=false from rfl]
  skip
  by_cases c1:q.role<0
  ·rw [show iLt q.role (Int.ofNat 0)=true from by rw [iLt_eq];exact decide_eq_true c1]
   repeat' (first|refine w_seq ?_|refine w_reg ?_|refine w_e ?_|refine w_off rfl ?_|refine w_opk rfl rfl ?_|refine w_cond_t rfl ?_)
   refine w_build [V.nils,V.nils,nI 0,nI 0,nI 0,nB 0,nI 0,nI 0,V.nils] rfl rfl ?_
   skip
   refine w_store rfl rfl hR5 rfl rfl (by decide) (by simp) fun h6 hR6 hE6 hn6=>?_
   repeat' (first|refine w_e ?_|refine w_opk rfl rfl ?_|refine w_ret ?_)
   exact w_rt (tail9 hR6 rfl rfl rfl) ⟨⟨_,_,rfl,by decide,rfl,rfl⟩,E5.step hE6 fun q hq=>by simp at hq;exact .inr (by omega)⟩
  rw [show iLt q.role (Int.ofNat 0)=false from by rw [iLt_eq];exact decide_eq_false c1]
  obtain ⟨r,hr⟩:∃ r:Nat,q.role=Int.ofNat r:=⟨q.role.toNat,(Int.toNat_of_nonneg (by omega)).symm⟩
  rw [hr]
  repeat' (first|refine w_rfg rfl rfl (by assumption) (by rfl) (by rfl) (by rfl) (by rfl) ?_|refine w_on rfl ?_|refine w_len rfl (by assumption) ?_|refine w_opk rfl rfl ?_)
  by_cases c2:lr.length≤r
  ·rw [show iNot (iLt (Int.ofNat r) (Int.ofNat lr.length))=true from by rw [iLt_eq,show decide (Int.ofNat r<Int.ofNat lr.length)=false from decide_eq_false (by show ¬ (r:Int)<lr.length;omega)];rfl]
   repeat' (first|refine w_seq ?_|refine w_reg ?_|refine w_e ?_|refine w_off rfl ?_|refine w_opk rfl rfl ?_|refine w_cond_t rfl ?_)
   refine w_build [V.nils,V.nils,nI 0,nI 0,nI 0,nB 0,nI 0,nI 0,V.nils] rfl rfl ?_
   skip
   refine w_store rfl rfl hR5 rfl rfl (by decide) (by simp) fun h6 hR6 hE6 hn6=>?_
   repeat' (first|refine w_e ?_|refine w_opk rfl rfl ?_|refine w_ret ?_)
   exact w_rt (tail9 hR6 rfl rfl rfl) ⟨⟨_,_,rfl,by decide,rfl,rfl⟩,E5.step hE6 fun q hq=>by simp at hq;exact .inr (by omega)⟩
  have hrk2:r<lr.length:=by omega
  have hrk:r<M.roles.length:=by omega
  obtain ⟨ov,epr,rov⟩:=a4.get hrk2 hrk
  have hrp:=List.getElem?_eq_getElem hrk
  generalize M.roles[r]=p at *
  have hSr:=slot_at rr4 hrk2
  rw [epr] at hSr
  rw [show iNot (iLt (Int.ofNat r) (Int.ofNat lr.length))=false from by rw [iLt_eq,show decide (Int.ofNat r<Int.ofNat lr.length)=true from decide_eq_true (by show (r:Int)<lr.length;omega)];rfl]
  repeat' (first|refine w_rfg rfl rfl (by assumption) (by rfl) (by rfl) (by rfl) (by rfl) ?_|refine w_on rfl ?_|refine w_len rfl (by assumption) ?_|refine w_opk rfl rfl ?_)
  refine w_iadrS rfl rfl rr4 hrk2 ?_
  refine w_on rfl (w_fadr rfl hSr rfl fun hSr1=>?_)
  refine w_on rfl (w_load1 rfl hSr1 rfl ?_)
  repeat' (first|refine w_on rfl ?_|refine w_opk rfl rfl ?_)
  by_cases c3:(lcs.length:Int)=p.params
  ·rw [show iNot (iEq (Int.ofNat lcs.length) p.params)=false from by rw [show iEq (Int.ofNat lcs.length) p.params=true from by rw [← c3];exact iEq_t (n:=lcs.length) rfl];rfl]
   repeat' (first|refine w_on rfl ?_|refine w_opk rfl rfl ?_)
   refine w_callA [sv] rfl ((right_ok hO.toOffRt rsv hss5 (fun i hi=>by have:=hzn i hi;omega) (RngVl.of fun a ha=>(hq.s.2 a ha).1) (by omega)).mono fun _ h6 ⟨⟨b1,e,hb1⟩,hE6⟩=>?_)
   subst e
   have hV6:=hV5.ext0 hE6
   have hR6:=hR5.ext0 hE6
   have E6:=E5.trans hE6
   have rav6:=rav.ext0 hE6
   have haa6:=haa5.ext0 hE6
   have n6:=hE6.1
   have hrl:=hR6.1
   cases b1 with
   | false=>
    repeat' (first|refine w_seq ?_|refine w_reg ?_|refine w_e ?_|refine w_off rfl ?_|refine w_on rfl ?_|refine w_opk rfl rfl ?_|refine w_cond_t rfl ?_)
    refine w_build [V.nils,V.nils,nI 0,nI 0,nI 0,nB 0,nI 0,nI 0,V.nils] rfl rfl ?_
    skip
    refine w_store rfl rfl hR6 rfl rfl (by decide) (by simp) fun h7 hR7 hE7 hn7=>?_
    repeat' (first|refine w_e ?_|refine w_opk rfl rfl ?_|refine w_ret ?_)
    exact w_rt (tail9 hR7 rfl rfl rfl) ⟨⟨_,_,rfl,by decide,rfl,rfl⟩,E6.step hE7 fun q hq=>by simp at hq;exact .inr (by omega)⟩
   | true=>
    repeat' (first|refine w_fl rfl (by assumption) (by rfl) (by rfl) (by rfl) ?_|refine w_on rfl ?_|refine w_opk rfl rfl ?_)
    refine w_callA [av] rfl ((right_ok hO.toOffRt rav6 haa6 (fun i hi=>by have:=hzn i hi;omega) (RngVl.of fun a ha=>(hq.a.2 a ha).1) (by omega)).mono fun _ h7 ⟨⟨b2,e,hb2⟩,hE7⟩=>?_)
    subst e
    have hR7:=hR6.ext0 hE7
    have E7:=E6.trans hE7
    cases b2 with
    | true=>exact absurd ⟨hX,r,p,hr,hrp,by omega,hb1.1 rfl,hb2.1 rfl⟩ hb
    | false=>
     repeat' (first|refine w_seq ?_|refine w_reg ?_|refine w_e ?_|refine w_on rfl ?_|refine w_opk rfl rfl ?_|refine w_cond_t rfl ?_)
     refine w_build [V.nils,V.nils,nI 0,nI 0,nI 0,nB 0,nI 0,nI 0,V.nils] rfl rfl ?_
     skip
     refine w_store rfl rfl hR7 rfl rfl (by decide) (by simp) fun h8 hR8 hE8 hn8=>?_
     repeat' (first|refine w_e ?_|refine w_opk rfl rfl ?_|refine w_ret ?_)
     exact w_rt (tail9 hR8 rfl rfl rfl) ⟨⟨_,_,rfl,by decide,rfl,rfl⟩,E7.step hE8 fun q hq=>by simp at hq;exact .inr (by omega)⟩
  ·have h1:iEq (Int.ofNat lcs.length) p.params=false:=by
    rw [iEq_eq]
    exact beq_false_of_ne c3
   rw [h1,show iNot false=true from rfl]
   repeat' (first|refine w_seq ?_|refine w_reg ?_|refine w_e ?_|refine w_off rfl ?_|refine w_opk rfl rfl ?_|refine w_cond_t rfl ?_)
   refine w_build [V.nils,V.nils,nI 0,nI 0,nI 0,nB 0,nI 0,nI 0,V.nils] rfl rfl ?_
   skip
   refine w_store rfl rfl hR5 rfl rfl (by decide) (by simp) fun h6 hR6 hE6 hn6=>?_
   repeat' (first|refine w_e ?_|refine w_opk rfl rfl ?_|refine w_ret ?_)
   exact w_rt (tail9 hR6 rfl rfl rfl) ⟨⟨_,_,rfl,by decide,rfl,rfl⟩,E5.step hE6 fun q hq=>by simp at hq;exact .inr (by omega)⟩
 ·have he0:e≠0:=fun q=>hX (he.1 q)
  repeat' (first|refine w_seq ?_|refine w_reg ?_|refine w_e ?_|refine w_opk rfl rfl ?_)
  rw [show iNot (iEq e (Int.ofNat 0))=true from by rw [show iEq e (Int.ofNat 0)=false from iEq_f (n:=0) he0];rfl]
  repeat' (first|refine w_seq ?_|refine w_reg ?_|refine w_cond_t rfl ?_)
  refine w_build [V.nils,V.nils,nI 0,nI 0,nI 0,nB 0,nI 0,nI 0,V.nils] rfl rfl ?_
  repeat' (first|refine w_opk rfl rfl ?_)
  refine w_store rfl rfl hR5 rfl rfl (by decide) (by simp) fun h6 hR6 hE6 hn6=>?_
  repeat' (first|refine w_e ?_|refine w_opk rfl rfl ?_|refine w_ret ?_)
  have E6:Ext h0 h6:=E5.step hE6 fun q hq=>by simp at hq;exact .inr (by omega)
  exact w_rt (tail9 hR6 rfl rfl rfl) ⟨⟨_,e,rfl,he0,rfl,rfl⟩,E6⟩
end AmT
namespace AmT
open Go Am
set_option maxRecDepth 100000
set_option maxHeartbeats 4000000
variable {O:CallF}
structure Bgn (M:ModA) (T:Trn):Prop where
 go:T.over=0→TrnOk M T∧AllOk T
 no:T.over≠0→T.frames=[]
 ef:T.effs.length≤400000
theorem rightO_ok (hO:OffRg O) {h0:Heap} {mc tc:List V} {T:Trn} (hms:mc.length=4∧allOne mc=true) {Z:Nat→Prop} (ht:TrnI Z h0 tc T) (ho:T.over≠0)
  (hCk:∀ {h:Heap},Ext h0 h→WPc tab.get O 32 [.agg mc] h (fun r h'=>r=.int .i64 (.ofNat 0)∧Ext h h')) :
  WPc tab.get O 26 [.agg mc,.agg tc] h0 (fun r h'=>r=.bool true∧Ext h0 h'):=by
 have hts:=ht.shape
 refine w_fn' (hO.rg _ _) rfl rfl (by simp only [c26,initV,nth] <;> rfl) ?_
 refine w_seq (w_reg (w_box rfl hms.1 hms.2 fun iA h1 hA hiA hE1=>?_))
 refine w_box rfl hts.1 hts.2 fun iB h2 hB hiB hE2=>?_
 have E2:=hE1.trans hE2
 replace hA:Own h2 iA mc:=hA.ext0 hE2
 replace hB:Own h2 iB tc:=hB
 obtain ⟨vf,ve,vs,lf,le,ls,rfl,_⟩:=ht
 repeat' (first|refine w_seq ?_|refine w_reg ?_|refine w_e ?_|refine w_opk rfl rfl ?_)
 refine w_loadA rfl (hA.at hms.1) (by rw [hms.1];rfl) ?_
 rw [show List.take 4 mc=mc from List.take_of_length_le (by omega)]
 refine w_callA [.agg mc] rfl ((hCk E2).mono fun _ h3 ⟨e,hE3⟩=>?_)
 subst e
 have hB3:=hB.ext0 hE3
 have eo:iEq T.over (Int.ofNat 0)=false:=by rw [iEq_eq];exact beq_false_of_ne ho
 repeat' (first|refine w_seq ?_|refine w_reg ?_|refine w_e ?_|refine w_rf rfl (by assumption) (by rfl) (by rfl) (by rfl) ?_|refine w_opk rfl rfl ?_|refine w_cond_f rfl ?_|refine w_skip ?_)
 rw [eo]
 repeat' (first|refine w_seq ?_|refine w_reg ?_|refine w_e ?_|refine w_opk rfl rfl ?_|refine w_cond_t rfl ?_|refine w_ret ?_|refine w_rt rfl ?_)
 exact ⟨rfl,E2.trans hE3⟩
theorem runO_ok (hO:OffRun O) {Z:Nat→Prop} {h0:Heap} {mc tc:List V} {T:Trn} {n:Int} (hms:mc.length=4∧allOne mc=true) (hzn:∀ i,Z i→i<h0.n) (ht:TrnI Z h0 tc T) (ho:T.over≠0) (hf:T.frames=[]) :
  WPc tab.get O 18 [.agg mc,.agg tc,.int .i64 n] h0 (fun r h'=>∃ c,r=.agg c∧TrnI (fun i=>Z i∨h0.n≤i) h' c T∧Ext h0 h'):=by
 have hts:=ht.shape
 refine w_fn' (hO.run _ _) rfl rfl (by simp only [c18,initV,nth] <;> rfl) ?_
 refine w_seq (w_reg (w_box rfl hms.1 hms.2 fun iA h1 hA hiA hE1=>?_))
 refine w_box rfl hts.1 hts.2 fun iB h2 hB hiB hE2=>?_
 refine w_alloc fun iR h3 hR3 hiR hE3=>?_
 have E3:=(hE1.trans hE2).trans hE3
 have n1:=hE1.1
 have n2:=hE2.1
 have n3:=hE3.1
 replace hB:Own h3 iB tc:=hB.ext0 hE3
 have e9:List.take 9 tc=tc:=List.take_of_length_le (by omega)
 have ht3:=ht.ext0 E3
 have eo:iEq T.over (Int.ofNat 0)=false:=by rw [iEq_eq];exact beq_false_of_ne ho
 obtain ⟨ca,cb,cs,etc⟩:∃ a b s,tc=[a,b,.int .i64 T.self,.int .i64 T.next,.int .i64 T.used,.int .u8 T.over,.int .i64 T.trap,.int .i64 T.role,s]:=by
  obtain ⟨vf,ve,vs,lf,le,ls,e,_⟩:=ht
  exact ⟨_,_,_,e⟩
 subst etc
 have b1:=ht.ext0 E3
 repeat' (first|refine w_seq ?_|refine w_reg ?_|refine w_e ?_|refine w_rf rfl (by assumption) (by rfl) (by rfl) (by rfl) ?_|refine w_opk rfl rfl ?_)
 rw [eo]
 repeat' (first|refine w_seq ?_|refine w_reg ?_|refine w_e ?_|refine w_off rfl ?_|refine w_opk rfl rfl ?_|refine w_cond_t rfl ?_)
 refine w_loadA rfl (hB.at rfl) rfl ?_
 refine w_callA [.agg [ca,cb,.int .i64 T.self,.int .i64 T.next,.int .i64 T.used,.int .u8 T.over,.int .i64 T.trap,.int .i64 T.role,cs]] rfl ((copiedM_ok hO.cp (fun i hi=>by have:=hzn i hi;omega) b1).mono fun _ h4 ⟨⟨c',L,e,hL,hL0,hL1⟩,hE4⟩=>?_)
 subst e
 have hLs:=hL.shape
 have hR4:=hR3.ext0 hE4
 have hRl:=hR3.1
 have n4:=hE4.1
 refine w_store rfl rfl hR4 hLs.1 hLs.2 (by decide) (by simp) fun h5 hR5 hE5 hn5=>?_
 replace hR5:Own h5 iR c':=by
  have:splice [V.nils,V.nils,nI 0,nI 0,nI 0,nB 0,nI 0,nI 0,V.nils] 0 c'=c':=over_all (by rw [hLs.1];rfl)
  rw [← this];exact hR5
 have E4:=E3.trans hE4
 have E5:Ext h0 h5:=E4.step hE5 fun q hq=>by simp at hq;exact .inr (by omega)
 have hiZ:¬ Z iR:=fun q=>by have:=hzn _ q;omega
 have hk:∀ j,L j≠1→Z j∨h0.n≤j:=fun j hj=>by
  by_cases hZ:Z j
  ·exact .inl hZ
  ·refine .inr ?_
   rcases Nat.lt_or_ge j h3.n with q | q
   ·exact absurd (hL1 j hZ q) hj
   ·omega
 have hs:∀ j,L j≠1→j∉[iR]:=fun j hj hm=>by
  simp at hm
  subst hm
  exact hj (hL1 _ hiZ (by omega))
 obtain ⟨vf0,ve0,vs0,lf0,le0,ls0,_,_,_,_,_,_,_,_,bf,be,bs⟩:=ht
 obtain ⟨vf,ve,vs,lf,le,ls,ec,q1,q2,q3,q4,q5,q6,q7,q8⟩:=hL
 repeat' (first|refine w_e ?_|refine w_ret ?_)
 refine w_rt (l:=[.agg c']) (by
  have e1:=(hR5.at (hi:=9) hLs.1).agg (n:=9) (by have:=hLs.1;omega)
  rw [show List.take 9 c'=c' from List.take_of_length_le (by have:=hLs.1;omega)] at e1
  show resV _ _ [.cell 3 true 9]=_
  simp only [resV,nth,e1]) ⟨c',rfl,⟨vf,ve,vs,lf,le,ls,ec,⟨(q1.ext hE5 fun j hj=>hs j (by rw [q2 j hj];decide)).rs,fun j hj=>hk j (by rw [q2 j hj];decide)⟩,q3.1,fun i a b h1 h2=>?_,⟨(q4.ext hE5 fun j hj=>hs j (by rw [q5 j hj];decide)).rs,fun j hj=>hk j (by rw [q5 j hj];decide)⟩,q6.mono fun _ _ _ _ k=>k.ext hE5 (fun j hj=>hs j (by rw [hj];decide)) fun j hj _=>hk j (by rw [hj];decide),q7.extL hE5 (fun j hj=>hs j (by rw [hj];decide)) fun j hj _=>hk j (by rw [hj];decide),q8.ext hE5 (fun j hj=>hs j (by rw [hj];decide)) fun j hj _=>hk j (by rw [hj];decide),bf,be,bs⟩,E5⟩
 ·rw [hf] at h2
  cases h2
theorem rightB_ok (hO:OffRg O) {Z:Nat→Prop} {h0:Heap} {mc tc:List V} {M:ModA} {T:Trn} (hM:ModOk M) (hzn:∀ i,Z i→i<h0.n) (hm:ModR Z h0 mc M) (ht:TrnI Z h0 tc T) (hB:Bgn M T)
  (hCk:∀ {h:Heap},Ext h0 h→WPc tab.get O 32 [.agg mc] h (fun r h'=>r=.int .i64 (.ofNat 0)∧Ext h h')) :
  WPc tab.get O 26 [.agg mc,.agg tc] h0 (fun r h'=>r=.bool true∧Ext h0 h'):=by
 by_cases ho:T.over=0
 ·exact (rightM_ok hO hM hzn hm ht ho (hB.go ho).1 hCk).mono fun r h' ⟨⟨b,e,hb⟩,hE⟩=>⟨by rw [e,hb.2 (hB.go ho).2],hE⟩
 ·exact rightO_ok hO hm.shape ht ho hCk
theorem runB_ok (hO:OffRun O) (hR:OffRg O) {Z:Nat→Prop} {h0:Heap} {mc tc:List V} {M:ModA} {T:Trn} {n:Int} (hM:ModOk M) (hzn:∀ i,Z i→i<h0.n) (hm:ModR Z h0 mc M) (ht:TrnI Z h0 tc T) (hB:Bgn M T) (hn:n≤400000)
  (hCk:∀ {h:Heap},Ext h0 h→WPc tab.get O 32 [.agg mc] h (fun r h'=>r=.int .i64 (.ofNat 0)∧Ext h h')) :
  WPc tab.get O 18 [.agg mc,.agg tc,.int .i64 n] h0 (fun r h'=>∃ c,r=.agg c∧TrnI (fun i=>Z i∨h0.n≤i) h' c (Am.runT M n.toNat T)∧Ext h0 h'):=by
 by_cases ho:T.over=0
 ·exact run_ok hO hM hzn hm ht ho (hB.go ho).1 hB.ef hn fun {h} hE=>rightB_ok hR hM (fun i hi=>by have:=hzn i hi;have:=hE.1;omega) (hm.ext hE (Z':=Z) (by simp) fun _ q _=>q) (ht.ext0 hE) hB fun {h'} hE'=>hCk (hE.trans hE')
 ·rw [runT_over ho]
  exact runO_ok hO hm.shape hzn ht ho (hB.no ho)
end AmT
namespace AmT
open Go Am
set_option maxRecDepth 100000
set_option maxHeartbeats 4000000
variable {O:CallF}
structure OffWS (O:CallF):Prop extends OffWV O where
 same:∀ a h,O 27 a h=none
theorem same12W_ok (hO:OffWS O) {Z Z':Nat→Prop} {h0:Heap} {a b:List V} {T:Trn} (ha:TrnI Z h0 a T) (hb:TrnI Z' h0 b T) (hbd:BndT T):WPc tab.get O 27 [.agg a,.agg b] h0 (fun v h'=>v=.bool true∧Ext h0 h'):=by
 refine w_fn' (hO.same _ _) rfl rfl (by simp only [c27,initV,nth] <;> rfl) ?_
 have hsa:=ha.shape
 have hsb:=hb.shape
 refine w_seq (w_reg (w_box rfl hsa.1 hsa.2 fun iA h1 hA hiA hE1=>?_))
 refine w_box rfl hsb.1 hsb.2 fun iB h2 hB hiB hE2=>?_
 have E2:=hE1.trans hE2
 replace hA:=hA.ext0 hE2
 obtain ⟨vf,ve,vs,lf,le,ls,rfl,rf0,ef,sf,re0,ae,rs0,asv,bf,be,bs⟩:=ha.ext0 E2
 obtain ⟨wf,we,ws,mf,me,ms,rfl,uf0,eg,tf,ue0,be2,us0,bs2,_,_,_⟩:=hb.ext0 E2
 have rf:=rf0.1
 have re:=re0.1
 have rs:=rs0.1
 have uf:=uf0.1
 have ue:=ue0.1
 have us:=us0.1
 have hee:=ae.1
 have hee2:=be2.1
 have hel:mf.length=lf.length:=by omega
 clear rf0 re0 rs0 uf0 ue0 us0
 repeat' (first|refine w_seq ?_|refine w_reg ?_|refine w_e ?_|refine w_off rfl ?_|refine w_rf rfl (by assumption) (by rfl) (by rfl) (by rfl) ?_|refine w_rfg rfl rfl (by assumption) (by rfl) (by rfl) (by rfl) (by rfl) ?_|refine w_on rfl ?_|refine w_neq rfl rfl (fun hc=>?_) (fun hc=>?_)|refine w_opk rfl rfl ?_|refine w_cond_t rfl ?_|refine w_ret ?_|refine w_rt rfl ?_)
 ·exact absurd rfl hc
 ·exact absurd rfl hc
 ·exact absurd rfl hc
 ·exact absurd rfl hc
 ·exact absurd rfl hc
 ·exact absurd rfl hc
 refine w_call rfl ((sameValsW_ok hO.toOffVals rs asv us bs2 bs hbd.1).mono fun v' h3 ⟨e1,hE3⟩=>?_)
 subst e1
 replace hA:=hA.ext0 hE3
 replace hB:=hB.ext0 hE3
 replace rf:=rf.ext0 hE3
 replace re:=re.ext0 hE3
 replace uf:=uf.ext0 hE3
 replace ue:=ue.ext0 hE3
 replace sf:=fun i c f h1 h2=>(sf i c f h1 h2).ext hE3 (Z':=Z) (by simp) fun _ q _=>q
 replace tf:=fun i c f h1 h2=>(tf i c f h1 h2).ext hE3 (Z':=Z') (by simp) fun _ q _=>q
 replace ae:=ae.mono fun _ _ _ _ q=>EffR.ext q hE3 (Z':=Z) (by simp) fun _ q _=>q
 replace be2:=be2.mono fun _ _ _ _ q=>EffR.ext q hE3 (Z':=Z') (by simp) fun _ q _=>q
 replace E2:=E2.trans hE3
 clear hE3 rs us
 repeat' (first|refine w_rfg rfl rfl (by assumption) (by rfl) (by rfl) (by rfl) (by rfl) ?_|refine w_on rfl ?_|refine w_opk rfl rfl ?_)
 refine w_call rfl ((sameEffsW_ok hO.toOffWV re ae ue be2 be hbd.2.2).mono fun v' h4 ⟨e1,hE3⟩=>?_)
 subst e1
 replace hA:=hA.ext0 hE3
 replace hB:=hB.ext0 hE3
 replace rf:=rf.ext0 hE3
 replace uf:=uf.ext0 hE3
 replace sf:=fun i c f h1 h2=>(sf i c f h1 h2).ext hE3 (Z':=Z) (by simp) fun _ q _=>q
 replace tf:=fun i c f h1 h2=>(tf i c f h1 h2).ext hE3 (Z':=Z') (by simp) fun _ q _=>q
 replace E2:=E2.trans hE3
 clear hE3 re ue
 repeat' (first|refine w_seq ?_|refine w_reg ?_|refine w_e ?_|refine w_rf rfl (by assumption) (by rfl) (by rfl) (by rfl) ?_|refine w_rfg rfl rfl (by assumption) (by rfl) (by rfl) (by rfl) (by rfl) ?_|refine w_on rfl ?_|refine w_len rfl (by assumption) ?_|refine w_neqN rfl rfl (fun hc=>?_) (fun hc=>?_)|refine w_opk rfl rfl ?_|refine w_cond_t rfl ?_|refine w_cond_f rfl ?_|refine w_skip ?_|refine w_ret ?_|refine w_rt rfl ?_)
 ·exact absurd (by omega) hc
 refine w_count (fun j vs' h=>Ext h4 h∧∃ b8 b9 b10 b11 b12,vs'=[.agg [vf,ve,.int .i64 T.self,.int .i64 T.next,.int .i64 T.used,.int .u8 T.over,.int .i64 T.trap,.int .i64 T.role,vs],.agg [wf,we,.int .i64 T.self,.int .i64 T.next,.int .i64 T.used,.int .u8 T.over,.int .i64 T.trap,.int .i64 T.role,ws],.bool false,.ptr iA 0 0 9,.ptr iB 0 0 9,.bool false,.int .i64 (.ofNat j),.int .i64 (.ofNat lf.length),b8,b9,b10,b11,b12]) lf.length ⟨ExtX.refl _ _,_,_,_,_,_,rfl⟩ ?_
 rintro j vs' h hj ⟨hE,b8,b9,b10,b11,b12,rfl⟩
 have hA':=hA.ext0 hE
 have hB':=hB.ext0 hE
 have rf':=rf.ext0 hE
 have uf':=uf.ext0 hE
 have E:=E2.trans hE
 repeat' (first|refine w_seq ?_|refine w_reg ?_|refine w_e ?_|refine w_lssN rfl rfl (fun hc=>?_) (fun hc=>?_)|refine w_opk rfl rfl ?_|refine w_cond_t rfl ?_|refine w_cond_f rfl ?_|refine w_skip ?_|refine w_exit rfl ?_|refine w_ret ?_|refine w_rt rfl ?_)
 ·have hje:j<lf.length:=by assumption
  have hjF:j<T.frames.length:=by omega
  have hjm:j<mf.length:=by omega
  have kf:=(sf j lf[j] T.frames[j] (List.getElem?_eq_getElem hje) (List.getElem?_eq_getElem hjF)).ext hE (Z':=Z) (by simp) fun _ q _=>q
  have kg:=(tf j mf[j] T.frames[j] (List.getElem?_eq_getElem hjm) (List.getElem?_eq_getElem hjF)).ext hE (Z':=Z') (by simp) fun _ q _=>q
  have hbF:=hbd.2.1 _ (List.getElem_mem hjF)
  generalize T.frames[j]=F at *
  obtain ⟨p1,q1,lv1,ls1,e1,ra1,va1,ra2,va2,bv1,bv2⟩:=kf
  obtain ⟨p2,q2,lv2,ls2,e2,rb1,vb1,rb2,vb2,_,_⟩:=kg
  have r11:=ra1.1
  have r12:=ra2.1
  have r21:=rb1.1
  have r22:=rb2.1
  have k1:allOne [.int .i64 (.ofNat F.fn),.int .i64 (.ofNat F.at_),p1,q1]=true:=by simp only [allOne,r11.one,r12.one];rfl
  have k2:allOne [.int .i64 (.ofNat F.fn),.int .i64 (.ofNat F.at_),p2,q2]=true:=by simp only [allOne,r21.one,r22.one];rfl
  clear ra1 ra2 rb1 rb2
  have hSA:=slot_at rf' hje
  rw [e1] at hSA
  have hSB:=slot_at uf' hjm
  rw [e2] at hSB
  refine w_block ?_
  repeat' (first|refine w_seq ?_|refine w_reg ?_|refine w_e ?_|refine w_rf rfl (by assumption) (by rfl) (by rfl) (by rfl) ?_|refine w_opk rfl rfl ?_)
  refine w_iadrS rfl rfl rf' hje ?_
  refine w_loadA rfl hSA rfl ?_
  repeat' (first|refine w_rf rfl (by assumption) (by rfl) (by rfl) (by rfl) ?_|refine w_opk rfl rfl ?_)
  refine w_iadrS rfl rfl uf' hjm ?_
  refine w_loadA rfl hSB rfl ?_
  refine w_alloc fun ix h5 hx hix hE3=>?_
  refine w_alloc fun iy h6 hy hiy hE4=>?_
  have hixl:=hx.1
  replace hx:=hx.ext0 hE4
  have hAl:=hA'.1
  have hBl:=hB'.1
  refine w_store rfl rfl hx rfl k1 (by decide) (by simp) fun h7 hx5 hE5 hn5=>?_
  replace hx5:Own h7 ix [.int .i64 (.ofNat F.fn),.int .i64 (.ofNat F.at_),p1,q1]:=hx5
  have hF5:Ext h h7:=(hE3.trans hE4).step hE5 fun jd hjd=>by simp at hjd;exact .inr (by omega)
  have hSB5:=slot_at (uf'.ext0 hF5) hjm
  rw [e2] at hSB5
  have hB5:=hB'.ext0 hF5
  refine w_chkA rfl rfl hSB5 (by simp) (V.beqL_refl _) ?_
  refine w_chk1 rfl rfl (hB5.at rfl) (V.beq_refl _) ?_
  have hy5:=hy.ext hE5 (by simp;omega)
  refine w_store rfl rfl hy5 rfl k2 (by decide) (by simp) fun h8 hy6 hE6 hn6=>?_
  replace hy6:Own h8 iy [.int .i64 (.ofNat F.fn),.int .i64 (.ofNat F.at_),p2,q2]:=hy6
  have hx6:=hx5.ext hE6 (by simp;omega)
  have hF6:Ext h h8:=hF5.step hE6 fun jd hjd=>by simp at hjd;exact .inr (by have:=hE3.1;omega)
  replace r11:=r11.ext0 hF6
  replace r12:=r12.ext0 hF6
  replace r21:=r21.ext0 hF6
  replace r22:=r22.ext0 hF6
  have hEE:=hE.trans hF6
  clear hx hy hE5 hE6 hE3 hE4 hA' hB' hSA hSB hSB5 hB5 hx5 hy5 rf' uf' hF5
  repeat' (first|refine w_seq ?_|refine w_reg ?_|refine w_e ?_|refine w_off rfl ?_|refine w_rf rfl (by assumption) (by rfl) (by rfl) (by rfl) ?_|refine w_rfg rfl rfl (by assumption) (by rfl) (by rfl) (by rfl) (by rfl) ?_|refine w_on rfl ?_|refine w_neqN rfl rfl (fun hc=>?_) (fun hc=>?_)|refine w_opk rfl rfl ?_|refine w_cond_t rfl ?_|refine w_ret ?_|refine w_rt rfl ?_)
  ·exact absurd rfl hc
  ·exact absurd rfl hc
  refine w_call rfl ((sameValsW_ok hO.toOffVals r11 (va1.ext0 hF6) r21 (vb1.ext0 hF6) bv1 hbF.1).mono fun v' h9 ⟨e3,hE9⟩=>?_)
  subst e3
  replace hx6:=hx6.ext0 hE9
  replace hy6:=hy6.ext0 hE9
  repeat' (first|refine w_rfg rfl rfl (by assumption) (by rfl) (by rfl) (by rfl) (by rfl) ?_|refine w_on rfl ?_|refine w_opk rfl rfl ?_)
  refine w_call rfl ((sameValsW_ok hO.toOffVals (r12.ext0 hE9) ((va2.ext0 hF6).ext0 hE9) (r22.ext0 hE9) ((vb2.ext0 hF6).ext0 hE9) bv2 hbF.2).mono fun v' h10 ⟨e3,hE10⟩=>?_)
  subst e3
  repeat' (first|refine w_reg ?_|refine w_e ?_|refine w_on rfl ?_|refine w_addN rfl rfl (by omega) ?_|refine w_opk rfl rfl ?_|refine w_cond_f rfl ?_|refine w_skip ?_)
  exact ⟨hje,hEE.trans (hE9.trans hE10),_,_,_,_,_,rfl⟩
 ·exact ⟨rfl,E⟩
end AmT
namespace AmT
open Go Am
set_option maxRecDepth 100000
set_option maxHeartbeats 2000000
variable {O:CallF}
theorem great_ok (hO:∀ a h,O 24 a h=none) {h0:Heap} {c:List V} (hm:ModC h0 c):WPc tab.get O 24 [.agg c] h0 (fun v h'=>(∃ b,v=.bool b)∧Ext h0 h'):=by
 refine w_fn' (hO _ _) rfl rfl (by simp only [c24,initV,nth] <;> rfl) ?_
 have hone:=hm.one
 obtain ⟨cs,ts,fs,rs,lc,lt,lf,lr,rfl,hcs,hts,hfs,hrs,hf,hr,bf,br⟩:=hm
 refine w_seq (w_reg (w_box rfl rfl hone.2 fun id h1 ho hn hE=>?_))
 replace hcs:=hcs.ext0 hE
 replace hts:=hts.ext0 hE
 replace hfs:=hfs.ext0 hE
 replace hrs:=hrs.ext0 hE
 replace hf:=fun f hf'=>(hf f hf').ext hE
 replace hr:=fun f hf'=>(hr f hf').ext hE
 repeat' (first|refine w_seq ?_|refine w_reg ?_|refine w_e ?_|refine w_rf rfl (by assumption) (by rfl) (by rfl) (by rfl) ?_|refine w_len rfl (by assumption) ?_|refine w_opk rfl rfl ?_)
 refine w_count (fun j vs h=>h1=h∧∃ b n w,vs=[.agg [cs,ts,fs,rs],.bool false,.ptr id 0 0 4,.int .i64 (.ofNat j),.int .i64 (.ofNat lf.length),b,.int .i64 n,w,.any,.any,.any,.any]) lf.length ⟨rfl,_,_,_,rfl⟩ ?_
 rintro j vs h hj ⟨rfl,b,n,w,rfl⟩
 repeat' (first|refine w_seq ?_|refine w_reg ?_|refine w_e ?_|refine w_rf rfl (by assumption) (by rfl) (by rfl) (by rfl) ?_|refine w_len rfl (by assumption) ?_|refine w_lssN rfl rfl (fun hc=>?_) (fun hc=>?_)|refine w_opk rfl rfl ?_|refine w_cond_t rfl ?_|refine w_cond_f rfl ?_|refine w_skip ?_|refine w_exit rfl ?_)
 ·refine w_block ?_
  repeat' (first|refine w_seq ?_|refine w_reg ?_|refine w_e ?_|refine w_rf rfl (by assumption) (by rfl) (by rfl) (by rfl) ?_|refine w_opk rfl rfl ?_)
  refine w_iadr rfl rfl hfs (by assumption) fun p hp=>?_
  obtain ⟨nm,pp,vv,code,l,e1,e2,-,-⟩:=hf _ (List.getElem_mem (by assumption))
  rw [e1] at hp
  refine w_fadr rfl hp rfl fun hp2=>?_
  refine w_load1 rfl hp2 rfl ?_
  repeat' (first|refine w_reg ?_|refine w_e ?_|refine w_len rfl (by assumption) ?_|refine w_addN rfl rfl (by omega) ?_|refine w_opk rfl rfl ?_)
  exact ⟨by assumption,rfl,_,_,_,rfl⟩
 refine w_count (fun j vs h=>h1=h∧∃ a b n w u x y,vs=[.agg [cs,ts,fs,rs],.bool false,.ptr id 0 0 4,a,b,u,.int .i64 n,w,.int .i64 (.ofNat j),.int .i64 (.ofNat lr.length),x,y]) lr.length ⟨rfl,_,_,_,_,_,_,_,rfl⟩ ?_
 rintro j vs h hj ⟨rfl,a,b,n,w,u,x,y,rfl⟩
 repeat' (first|refine w_seq ?_|refine w_reg ?_|refine w_e ?_|refine w_lssN rfl rfl (fun hc=>?_) (fun hc=>?_)|refine w_gtr rfl rfl (fun hc=>?_) (fun hc=>?_)|refine w_opk rfl rfl ?_|refine w_cond_t rfl ?_|refine w_cond_f rfl ?_|refine w_skip ?_|refine w_exit rfl ?_|refine w_ret ?_|refine w_rt rfl ?_)
 ·refine w_block ?_
  repeat' (first|refine w_seq ?_|refine w_reg ?_|refine w_e ?_|refine w_rf rfl (by assumption) (by rfl) (by rfl) (by rfl) ?_|refine w_opk rfl rfl ?_)
  refine w_iadr rfl rfl hrs (by assumption) fun p hp=>?_
  obtain ⟨nm,pp,code,l,e1,e2,-,-⟩:=hr _ (List.getElem_mem (by assumption))
  rw [e1] at hp
  refine w_fadr rfl hp rfl fun hp2=>?_
  refine w_load1 rfl hp2 rfl ?_
  repeat' (first|refine w_reg ?_|refine w_e ?_|refine w_len rfl (by assumption) ?_|refine w_addN rfl rfl (by omega) ?_|refine w_opk rfl rfl ?_)
  exact ⟨by assumption,rfl,_,_,_,_,_,_,_,rfl⟩
 ·exact ⟨⟨_,rfl⟩,hE⟩
 ·exact ⟨⟨_,rfl⟩,hE⟩
end AmT
