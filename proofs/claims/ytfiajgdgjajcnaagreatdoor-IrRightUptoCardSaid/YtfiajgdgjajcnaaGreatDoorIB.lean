/-
  The interpreter under the abstract machine, part IB. Conditions: those that each theorem states.
-/
import Derived.Test.YtfiajgdgjajcnaaGreatDoorIA
import Derived.Test.YtfiajgdgjajcnaaGreatDoorW
set_option linter.unusedSimpArgs false
set_option linter.unusedVariables false
namespace AmT
open Go Am
set_option maxRecDepth 100000
set_option maxHeartbeats 8000000
variable {O:CallF}
structure OffCk (O:CallF):Prop extends OffVR O where
 ck:∀ a h,O 32 a h=none
 pt:∀ a h,O 75 a h=none
 lm:∀ a h,O 137 a h=none
 ft:∀ a h,O 77 a h=none
theorem limit_ok (hO:OffCk O) {Z:Nat→Prop} {h0:Heap} {mc fc:List V} {M:ModA} {F:FnA} {o:Int} (hm:ModR Z h0 mc M) (hf:FnR Z h0 fc F) (h1:0≤o) (h2:o≤255) :
  WPc tab.get O 137 [.agg mc,.agg fc,.int .u8 o] h0 (fun v h'=>v=.int .i64 (lim M F o)∧Ext h0 h'):=by
 have hs:=hm.shape
 refine w_fn' (hO.lm _ _) rfl rfl (by simp only [c137,initV,nth] <;> rfl) ?_
 refine w_seq (w_reg (w_box rfl hs.1 hs.2 fun iA g1 hA hiA hE1=>?_))
 obtain ⟨cs,ts,fns,rs,lc,lfn,lr,rfl,r1,v1,r2,r3,a3,r4,a4⟩:=hm
 obtain ⟨cv,rfl,rc⟩:=hf
 have ocv:=rc.1.one
 refine w_box rfl rfl (by show allOne [.str F.name,.int .i64 F.params,.int .i64 F.vars,cv]=true;simp only [allOne,ocv];rfl) fun iB g2 hB hiB hE2=>?_
 replace hA:Own g2 iA [cs,ts,fns,rs]:=hA.ext0 hE2
 replace hB:Own g2 iB [.str F.name,.int .i64 F.params,.int .i64 F.vars,cv]:=hB
 have E2:=hE1.trans hE2
 have q1:=r1.1.ext0 E2
 have q2:=r2.1.ext0 E2
 have q3:=r3.1.ext0 E2
 have q4:=r4.1.ext0 E2
 have q5:=rc.1.ext0 E2
 have n1:=v1.len
 have n3:=a3.1
 have n4:=a4.1
 obtain ⟨n,rfl⟩:∃ n:Nat,o=Int.ofNat n:=⟨o.toNat,(Int.toNat_of_nonneg h1).symm⟩
 replace h2:(n:Int)≤255:=h2
 have hfin:∀ k:Int,k=lim M F (Int.ofNat n)→V.int .i64 k=.int .i64 (lim M F (Int.ofNat n)):=fun k e=>by rw [e]
 repeat' (first|refine w_seq ?_|refine w_reg ?_|refine w_e ?_|refine w_opk rfl rfl ?_)
 refine w_block ?_
 repeat' (first|refine w_seq ?_|refine w_reg ?_|refine w_e ?_|refine w_off rfl ?_|refine w_rf rfl (by assumption) (by rfl) (by rfl) (by rfl) ?_|refine w_on rfl ?_|refine w_len rfl (by assumption) ?_|refine w_lssN rfl rfl (fun hc=>?_) (fun hc=>?_)|refine w_gtrN rfl rfl (fun hc=>?_) (fun hc=>?_)|refine w_eqlN rfl rfl (fun hc=>?_) (fun hc=>?_)|refine w_opk rfl rfl ?_|refine w_cond_t rfl ?_|refine w_cond_f rfl ?_|refine w_skip ?_|refine w_ret ?_|refine w_rt rfl ?_)
 all_goals
  refine ⟨hfin _ ?_,E2⟩
  rw [limN]
  repeat (first | rw [if_pos (by omega)] | rw [if_neg (by omega)])
  first | done | rfl | exact congrArg Int.ofNat n1 | exact congrArg Int.ofNat n3 | exact congrArg Int.ofNat n4 | exact congrArg Int.ofNat (List.length_map ..)
def HasI (h:Heap) (id:Nat) (fs:List Int):Prop:=OwM h id .i64 (onesI fs)
theorem parts_ok (hO:OffCk O) {Z:Nat→Prop} {h0:Heap} {mc:List V} {M:ModA} (hm:ModR Z h0 mc M) (hz:∀ i,Z i→i<h0.n) (ht:TyM M) :
  WPc tab.get O 75 [.agg mc] h0 (fun v h'=>(∃ b m,v=.tuple [m,.bool b]∧(b=true↔RolesX M M.roles)∧(b=true→∃ id,m=.map id∧HasI h' id (fnsOf M.roles)∧h0.n≤id))∧Ext h0 h'):=by
 have hs:=hm.shape
 refine w_fn' (hO.pt _ _) rfl rfl (by simp only [c75,initV,nth] <;> rfl) ?_
 refine w_seq (w_reg (w_box rfl hs.1 hs.2 fun iA h1 hA hiA hE1=>?_))
 obtain ⟨cs,ts,fns,rs,lc,lfn,lr,rfl,r1,v1,r2,r3,a3,r4,a4⟩:=hm
 replace hA:Own h1 iA [cs,ts,fns,rs]:=hA
 have hlr:=a4.1
 have hlf:=a3.1
 have hrl:=ht.rl
 have hfl:=ht.fl
 have fail:∀ h',Ext h0 h'→¬ RolesX M M.roles→(∃ b m,packV [.nilm,.bool false]=.tuple [m,.bool b]∧(b=true↔RolesX M M.roles)∧(b=true→∃ id,m=.map id∧HasI h' id (fnsOf M.roles)∧h0.n≤id))∧Ext h0 h':=fun h' e k=>⟨⟨false,.nilm,rfl,⟨fun q=>absurd q (by decide),fun q=>absurd q k⟩,fun q=>absurd q (by decide)⟩,e⟩
 repeat' (first|refine w_seq ?_|refine w_reg ?_|refine w_e ?_|refine w_opk rfl rfl ?_)
 refine w_mkI .i64 fun iM h2 hM2 hiM hE2=>?_
 have E2:=hE1.trans hE2
 have hA2:=hA.ext0 hE2
 have rr:=r4.1.ext0 E2
 have n1:=hE1.1
 have hAl:=hA.1
 repeat' (first|refine w_seq ?_|refine w_reg ?_|refine w_e ?_|refine w_rf rfl (by assumption) (by rfl) (by rfl) (by rfl) ?_|refine w_len rfl (by assumption) ?_|refine w_opk rfl rfl ?_)
 refine w_count (fun j vs h=>∃ b6 b8 b9 b10 b11 b12 b13 b14 b16 b17,(HasI h iM (fnsOf (M.roles.take j))∧RolesX M (M.roles.take j)∧ExtX [iM] h2 h)∧vs=[.agg [cs,ts,fns,rs],.nilm,.bool false,.ptr iA 0 0 4,.int .i64 (.ofNat j),.int .i64 (.ofNat lr.length),b6,rs,b8,b9,b10,b11,b12,b13,b14,.map iM,b16,b17]) lr.length ⟨_,_,_,_,_,_,_,_,_,_,⟨hM2,RolesX.nil,ExtX.refl _ _⟩,rfl⟩ ?_
 rintro j vs h hj ⟨b6,b8,b9,b10,b11,b12,b13,b14,b16,b17,⟨hMj,hRj,hE⟩,rfl⟩
 have rr':RS h 3 rs lr:=(r4.1.ext0 E2).ext hE (fun id off len ver e f hv hm=>by
  have h1:=r4.2 id (by rw [hv];simp [slIds])
  have:=hz _ h1
  simp at hm
  omega)
 have rf':RS h 4 fns lfn:=(r3.1.ext0 E2).ext hE (fun id off len ver e f hv hm=>by
  have h1:=r3.2 id (by rw [hv];simp [slIds])
  have:=hz _ h1
  simp at hm
  omega)
 have hAj:=hA2.ext hE (by simp;omega)
 have hEj:Ext h0 h:=E2.step hE fun q hq=>by simp at hq;exact .inr (by omega)
 clear rr hA2
 repeat' (first|refine w_seq ?_|refine w_reg ?_|refine w_e ?_|refine w_lssN rfl rfl (fun hc=>?_) (fun hc=>?_)|refine w_opk rfl rfl ?_|refine w_cond_t rfl ?_|refine w_cond_f rfl ?_|refine w_skip ?_|refine w_exit rfl ?_|refine w_ret ?_|refine w_rt rfl ?_)
 ·have hj1:j<lr.length:=by assumption
  have hj2:j<M.roles.length:=by omega
  obtain ⟨ov,epr,rov⟩:=a4.get hj1 hj2
  have htr:=ht.rs _ (List.getElem_mem hj2)
  have hS:=slot_at rr' hj1
  rw [epr] at hS
  have hov1:=rov.1.one
  have hno:RolesX M M.roles→RoleX M (fnsOf (M.roles.take j)) M.roles[j]:=fun k=>k j _ (List.getElem?_eq_getElem hj2)
  have hyes:=fun k=>hRj.snoc hj2 k
  have hsn:=fnsOf_snoc hj2
  generalize M.roles[j]=R at *
  refine w_block ?_
  repeat' (first|refine w_seq ?_|refine w_reg ?_)
  refine w_iadrS rfl rfl rr' hj1 ?_
  refine w_loadA rfl hS rfl ?_
  refine w_alloc fun iP h3 hP hiP hE3=>?_
  skip
  refine w_store rfl rfl hP rfl (by show allOne [.str R.name,.int .i64 R.params,ov]=true;simp only [allOne,hov1];rfl) (by decide) (by simp) fun h4 hP4 hE4 hn4=>?_
  replace hP4:Own h4 iP [.str R.name,.int .i64 R.params,ov]:=hP4
  have E4:Ext h h4:=hE3.step hE4 fun q hq=>by simp at hq;exact .inr (by omega)
  have hMl:=hMj.1
  have hM4:HasI h4 iM (fnsOf (M.roles.take j)):=hMj.ext0 E4
  repeat' (first|refine w_seq ?_|refine w_reg ?_|refine w_e ?_)
  refine w_mkSt fun iS h5 hS5 hiS hE5=>?_
  have E5:=E4.trans hE5
  have hP5:=hP4.ext0 hE5
  have hA5:=(hAj.ext0 E4).ext0 hE5
  have hM5:HasI h5 iM (fnsOf (M.roles.take j)):=hM4.ext0 hE5
  have rf5:=rf'.ext0 E5
  have rov5:RS h5 3 ov (R.on.map onC):=((rov.1.ext0 E2).ext hE (fun id off len ver e f hv hm=>by
   have h1:=rov.2 id (by rw [hv];simp [slIds])
   have:=hz _ h1
   simp at hm
   omega)).ext0 E5
  have nh:=hE.1
  have nh4:=E4.1
  have nh5:=hE5.1
  have hP4l:=hP4.1
  have hsx:∀ i∈slIds ov,i<h0.n:=fun i hi=>hz _ (rov.2 i hi)
  have hsf:∀ i∈slIds fns,i<h0.n:=fun i hi=>hz _ (r3.2 i hi)
  clear hP hP4 hE3 hE4 hM4 rov rr' hS hAj
  repeat' (first|refine w_seq ?_|refine w_reg ?_|refine w_e ?_|refine w_off rfl ?_|refine w_rf rfl (by assumption) (by rfl) (by rfl) (by rfl) ?_|refine w_rfg rfl rfl (by assumption) (by rfl) (by rfl) (by rfl) (by rfl) ?_|refine w_on rfl ?_|refine w_len rfl (by assumption) ?_|refine w_lss rfl rfl (fun hc=>?_) (fun hc=>?_)|refine w_gtr rfl rfl (fun hc=>?_) (fun hc=>?_)|refine w_opk rfl rfl ?_|refine w_cond_t rfl ?_|refine w_cond_f rfl ?_|refine w_skip ?_|refine w_ret ?_|refine w_rt rfl ?_)
  ·exact fail _ (hEj.trans E5) fun k=>by have:=(hno k).1;have hc':R.params<0:=hc;omega
  ·exact fail _ (hEj.trans E5) fun k=>by have:=(hno k).2.1;have hc':30<R.params:=hc;omega
  have hp0:0≤R.params:=by assumption
  have hp1:R.params≤30:=by assumption
  have hmap:(R.on.map onC).length=R.on.length:=List.length_map ..
  have hob:=htr.2.1
  refine w_count (fun k vs h'=>∃ b12 b14 b17,(HasI h' iM (fnsOf (M.roles.take j)++(R.on.take k).map fun o=>o.fn)∧OwS h' iS ((R.on.take k).map fun o=>o.tag)∧OnsX M R.params (fnsOf (M.roles.take j)) (R.on.take k)∧ExtX [iM,iS] h5 h')∧vs=[.agg [cs,ts,fns,rs],.nilm,.bool false,.ptr iA 0 0 4,.int .i64 (.ofNat j),.int .i64 (.ofNat lr.length),.bool true,rs,.ptr iP 0 0 3,.bool false,.int .i64 (.ofNat k),.int .i64 (.ofNat (R.on.map onC).length),b12,ov,b14,.map iM,.map iS,b17]) (R.on.map onC).length ⟨_,_,_,⟨by simpa using hM5,hS5,OnsX.nil,ExtX.refl _ _⟩,rfl⟩ ?_
  rintro k vs h' hk ⟨b12,b14,b17,⟨hMk,hSk,hOk,hEk⟩,rfl⟩
  have nhk:=hEk.1
  have rov':RS h' 3 ov (R.on.map onC):=rov5.ext hEk (fun id off len ver e f hv hm=>by
   have:=hsx id (by rw [hv];simp [slIds])
   simp at hm
   omega)
  have rfk:RS h' 4 fns lfn:=rf5.ext hEk (fun id off len ver e f hv hm=>by
   have:=hsf id (by rw [hv];simp [slIds])
   simp at hm
   omega)
  have hPk:=hP5.ext hEk (by simp;omega)
  have hAk:=hA5.ext hEk (by simp;omega)
  repeat' (first|refine w_seq ?_|refine w_reg ?_|refine w_e ?_|refine w_lssN rfl rfl (fun hc=>?_) (fun hc=>?_)|refine w_addN rfl rfl (by omega) ?_|refine w_opk rfl rfl ?_|refine w_cond_t rfl ?_|refine w_cond_f rfl ?_|refine w_skip ?_|refine w_exit rfl ?_)
  ·have hk1:k<(R.on.map onC).length:=by assumption
   have hk2:k<R.on.length:=by omega
   have hS':=slot_at rov' hk1
   rw [List.getElem_map] at hS'
   have hto:=htr.2.2 _ (List.getElem_mem hk2)
   have hno2:RoleX M (fnsOf (M.roles.take j)) R→OnX M R.params (fnsOf (M.roles.take j)++(R.on.take k).map fun o=>o.fn) ((R.on.take k).map fun o=>o.tag) R.on[k]:=fun q=>q.2.2 k _ (List.getElem?_eq_getElem hk2)
   have hsn2:=fun q=>hOk.snoc hk2 q
   have hsn3:(R.on.take (k+1)).map (fun o=>o.fn)=(R.on.take k).map (fun o=>o.fn)++[R.on[k].fn]:=by rw [List.take_succ_eq_append_getElem hk2,List.map_append];rfl
   have hsn4:(R.on.take (k+1)).map (fun o=>o.tag)=(R.on.take k).map (fun o=>o.tag)++[R.on[k].tag]:=by rw [List.take_succ_eq_append_getElem hk2,List.map_append];rfl
   generalize R.on[k]=o at *
   obtain ⟨tg,op,fn⟩:=o
   refine w_block ?_
   repeat' (first|refine w_seq ?_|refine w_reg ?_)
   refine w_iadrS rfl rfl rov' hk1 ?_
   refine w_loadA rfl hS' rfl ?_
   refine w_alloc fun iO h6 hOo hiO hE6=>?_
   skip
   refine w_store rfl rfl hOo rfl rfl (by decide) (by simp) fun h7 hO7 hE7 hn7=>?_
   replace hO7:Own h7 iO [.str tg,.int .i64 op,.int .i64 fn]:=hO7
   have E7:Ext h' h7:=hE6.step hE7 fun q hq=>by simp at hq;exact .inr (by omega)
   have hM7:HasI h7 iM _:=hMk.ext0 E7
   have hS7:=hSk.ext0 E7
   have hP7:=hPk.ext0 E7
   have hA7:=hAk.ext0 E7
   have rf7:=rfk.ext0 E7
   have EE:Ext h0 h7:=((hEj.trans E5).step hEk fun q hq=>by simp at hq;exact .inr (by rcases hq with e | e <;> omega)).trans E7
   clear hOo hE6 hE7 hMk hSk hPk hAk rfk hS'
   repeat' (first|refine w_seq ?_|refine w_reg ?_|refine w_e ?_|refine w_off rfl ?_|refine w_rf rfl (by assumption) (by rfl) (by rfl) (by rfl) ?_|refine w_rfg rfl rfl (by assumption) (by rfl) (by rfl) (by rfl) (by rfl) ?_|refine w_on rfl ?_|refine w_len rfl (by assumption) ?_|refine w_lss rfl rfl (fun hc=>?_) (fun hc=>?_)|refine w_geq rfl rfl (fun hc=>?_) (fun hc=>?_)|refine w_opk rfl rfl ?_|refine w_cond_t rfl ?_|refine w_ret ?_|refine w_rt rfl ?_)
   ·exact fail _ EE fun k=>by have:=(hno2 (hno k)).1;have hc':fn<0:=hc;exact absurd this (Int.not_le.2 hc')
   ·exact fail _ EE fun k=>by have:fn<M.fns.length:=(hno2 (hno k)).2.1;have hc':(lfn.length:Int)≤fn:=hc;omega
   have hf0:0≤fn:=by assumption
   have hf1:fn<(lfn.length:Int):=by assumption
   refine w_lookI rfl rfl hM7 ?_
   rw [getI_ones]
   by_cases hmem:fn∈fnsOf (M.roles.take j)++(R.on.take k).map fun o=>o.fn
   ·rw [if_pos hmem]
    refine w_on rfl (w_opk (v:=.bool true) rfl rfl ?_)
    repeat' (first|refine w_seq ?_|refine w_reg ?_|refine w_e ?_|refine w_off rfl ?_|refine w_opk rfl rfl ?_|refine w_cond_t rfl ?_|refine w_ret ?_|refine w_rt rfl ?_)
    exact fail _ EE fun k=>(hno2 (hno k)).2.2.1 hmem
   rw [if_neg hmem]
   refine w_on rfl (w_opk (v:=.bool false) rfl rfl ?_)
   repeat' (first|refine w_rfg rfl rfl (by assumption) (by rfl) (by rfl) (by rfl) (by rfl) ?_|refine w_on rfl ?_|refine w_opk rfl rfl ?_)
   refine w_lookSt rfl rfl hS7 ?_
   by_cases hmt:tg∈(R.on.take k).map fun o=>o.tag
   ·rw [if_pos hmt]
    refine w_on rfl (w_opk (v:=.bool true) rfl rfl ?_)
    repeat' (first|refine w_seq ?_|refine w_reg ?_|refine w_e ?_|refine w_off rfl ?_|refine w_opk rfl rfl ?_|refine w_cond_t rfl ?_|refine w_ret ?_|refine w_rt rfl ?_)
    exact fail _ EE fun k=>(hno2 (hno k)).2.2.2.1 hmt
   rw [if_neg hmt]
   refine w_on rfl (w_opk (v:=.bool false) rfl rfl ?_)
   obtain ⟨n,rfl⟩:∃ n:Nat,fn=Int.ofNat n:=⟨fn.toNat,(Int.toNat_of_nonneg hf0).symm⟩
   have hnl:n<lfn.length:=by have:(n:Int)<lfn.length:=hf1;omega
   have hnl2:n<M.fns.length:=by omega
   obtain ⟨cv,epf,_⟩:=a3.get hnl hnl2
   have hSf:=slot_at rf7 hnl
   rw [epf] at hSf
   have hFp:((M.fns[(Int.ofNat n).toNat]?).map fun F=>F.params)=some M.fns[n].params:=by
    show ((M.fns[n]?).map fun F=>F.params)=_
    rw [List.getElem?_eq_getElem hnl2];rfl
   generalize M.fns[n].params=fp at *
   repeat' (first|refine w_seq ?_|refine w_reg ?_|refine w_e ?_|refine w_off rfl ?_|refine w_rfg rfl rfl (by assumption) (by rfl) (by rfl) (by rfl) (by rfl) ?_|refine w_on rfl ?_|refine w_lss rfl rfl (fun hc=>?_) (fun hc=>?_)|refine w_gtr rfl rfl (fun hc=>?_) (fun hc=>?_)|refine w_opk rfl rfl ?_|refine w_cond_t rfl ?_|refine w_ret ?_|refine w_rt rfl ?_)
   ·exact fail _ EE fun k=>by have:=(hno2 (hno k)).2.2.2.2.1;have hc':op<0:=hc;exact absurd this (Int.not_le.2 hc')
   ·exact fail _ EE fun k=>by have:=(hno2 (hno k)).2.2.2.2.2.1;have hc':30<op:=hc;exact absurd this (Int.not_le.2 hc')
   have ho0:0≤op:=by assumption
   have ho1:op≤30:=by assumption
   refine w_iadrS rfl rfl rf7 hnl ?_
   refine w_on rfl (w_fadr rfl hSf rfl fun hSf1=>?_)
   refine w_on rfl (w_load1 rfl hSf1 rfl ?_)
   repeat' (first|refine w_seq ?_|refine w_reg ?_|refine w_e ?_|refine w_rf rfl (by assumption) (by rfl) (by rfl) (by rfl) ?_|refine w_rfg rfl rfl (by assumption) (by rfl) (by rfl) (by rfl) (by rfl) ?_|refine w_on rfl ?_|refine w_neq rfl rfl (fun hc=>?_) (fun hc=>?_)|refine w_opk rfl rfl ?_|refine w_cond_t rfl ?_|refine w_cond_f rfl ?_|refine w_skip ?_|refine w_ret ?_|refine w_rt rfl ?_)
   all_goals have hw:wrapK IntKind.i64 (op.add R.params)=op+R.params:=by rw [wrapK_eq];show IntKind.i64.wrap (op+R.params)=_;exact wrap_i64_of (by omega) (by omega)
   ·exact fail _ EE fun k=>by
     have k7:=(hno2 (hno k)).2.2.2.2.2.2
     have hc':fp≠wrapK IntKind.i64 (op.add R.params):=by assumption
     rw [hFp] at k7
     rw [hw] at hc'
     exact hc' (Option.some.inj k7)
   have hfe:fp=op+R.params:=by rw [← hw];assumption
   have hX:OnX M R.params (fnsOf (M.roles.take j)++(R.on.take k).map fun o=>o.fn) ((R.on.take k).map fun o=>o.tag) ⟨tg,op,Int.ofNat n⟩:=
    ⟨hf0,by show (n:Int)<_;omega,hmem,hmt,ho0,ho1,by rw [hFp,hfe]⟩
   refine w_mputI rfl rfl rfl hM7 fun h8 hM8 hE8 n8=>?_
   rw [show putI (Int.ofNat n) (.int .i64 (.ofNat 1)) (onesI (fnsOf (M.roles.take j)++(R.on.take k).map fun o=>o.fn))=_ from putI_ones hmem] at hM8
   have hO8:=hO7.ext hE8 (by simp;omega)
   have hS8:=hS7.ext hE8 (by simp;omega)
   refine w_chk1 rfl rfl (hO8.at (hi:=3) rfl) (V.beq_refl _) ?_
   refine w_mputSt rfl rfl rfl hS8 hmt fun h9 hS9 hE9 n9=>?_
   have hM9:=hM8.ext hE9 (by simp;omega)
   repeat' (first|refine w_reg ?_|refine w_e ?_|refine w_addN rfl rfl (by omega) ?_|refine w_opk rfl rfl ?_)
   refine ⟨hk1,_,_,_,⟨?_,?_,hsn2 hX,(hEk.trans (E7.mono (by simp))).trans ((hE8.mono (by simp)).trans (hE9.mono (by simp)))⟩,rfl⟩
   ·rw [hsn3,← List.append_assoc];exact hM9
   ·rw [hsn4];exact hS9
  ·have hkk:k=R.on.length:=by omega
   rw [hkk,List.take_length] at hMk hOk
   rw [← hsn] at hMk
   exact ⟨hj1,_,_,_,_,_,_,_,_,_,_,⟨hMk,hyes ⟨hp0,hp1,hOk⟩,(hE.trans (E5.mono (by simp))).step hEk fun q hq=>by simp at hq;rcases hq with e | e <;> simp [e] <;> omega⟩,rfl⟩
 ·have hjj:j=M.roles.length:=by omega
  rw [hjj,List.take_length] at hMj hRj
  exact ⟨⟨true,.map iM,rfl,⟨fun _=>hRj,fun _=>rfl⟩,fun _=>⟨iM,rfl,hMj,by omega⟩⟩,hEj⟩
end AmT
namespace AmT
open Go Am
set_option maxRecDepth 100000
set_option maxHeartbeats 8000000
variable {O:CallF}
theorem fits_ok (hO:OffCk O) {Z:Nat→Prop} {h0:Heap} {mc fc:List V} {M:ModA} {F:FnA} {bd:Bool} {id:Nat} (hm:ModR Z h0 mc M) (hf:FnR Z h0 fc F) (hz:∀ i,Z i→i<h0.n) (ht:TyFn F) (hI:HasI h0 id (fnsOf M.roles)) :
  WPc tab.get O 77 [.agg mc,.agg fc,.bool bd,.map id] h0 (fun v h'=>(∃ b,v=.bool b∧(b=true↔FunX M bd F))∧Ext h0 h'):=by
 have hs:=hm.shape
 refine w_fn' (hO.ft _ _) rfl rfl (by simp only [c77,initV,nth] <;> rfl) ?_
 refine w_seq (w_reg (w_box rfl hs.1 hs.2 fun iA g1 hA hiA hE1=>?_))
 have hmm:=hm
 have hff:=hf
 obtain ⟨cv,rfl,rc⟩:=hf
 have ocv:=rc.1.one
 refine w_box rfl rfl (by show allOne [.str F.name,.int .i64 F.params,.int .i64 F.vars,cv]=true;simp only [allOne,ocv];rfl) fun iB g2 hB hiB hE2=>?_
 replace hA:Own g2 iA mc:=hA.ext0 hE2
 replace hB:Own g2 iB [.str F.name,.int .i64 F.params,.int .i64 F.vars,cv]:=hB
 have E2:=hE1.trans hE2
 have q5:=rc.1.ext0 E2
 have hmap:(F.code.map insC).length=F.code.length:=List.length_map ..
 have hcl:=ht.2.2.1
 have fail:∀ h',Ext h0 h'→¬ FunX M bd F→(∃ b,packV [.bool false]=.bool b∧(b=true↔FunX M bd F))∧Ext h0 h':=fun h' e k=>⟨⟨false,rfl,fun q=>absurd q (by decide),fun q=>absurd q k⟩,e⟩
 repeat' (first|refine w_seq ?_|refine w_reg ?_|refine w_e ?_|refine w_off rfl ?_|refine w_rf rfl (by assumption) (by rfl) (by rfl) (by rfl) ?_|refine w_rfg rfl rfl (by assumption) (by rfl) (by rfl) (by rfl) (by rfl) ?_|refine w_on rfl ?_|refine w_len rfl (by assumption) ?_|refine w_lssN rfl rfl (fun hc=>?_) (fun hc=>?_)|refine w_gtrN rfl rfl (fun hc=>?_) (fun hc=>?_)|refine w_lss rfl rfl (fun hc=>?_) (fun hc=>?_)|refine w_gtr rfl rfl (fun hc=>?_) (fun hc=>?_)|refine w_opk rfl rfl ?_|refine w_cond_t rfl ?_|refine w_cond_f rfl ?_|refine w_skip ?_|refine w_ret ?_|refine w_rt rfl ?_)
 ·exact fail _ E2 fun k=>by have:=k.1;have hc':F.params<0:=hc;omega
 ·exact fail _ E2 fun k=>by have:=k.2.1;omega
 ·exact fail _ E2 fun k=>by have:=k.2.2.1;have hc':30<F.vars:=hc;omega
 ·exact fail _ E2 fun k=>by have:=lastOk_pos k.2.2.2.2.1;omega
 ·exact fail _ E2 fun k=>by have:=k.2.2.2.1;omega
 have p0:0≤F.params:=by assumption
 have p1:F.params≤F.vars:=by assumption
 have p2:F.vars≤30:=by assumption
 have p3:1≤(F.code.map insC).length:=by assumption
 have p4:(F.code.map insC).length≤16384:=by assumption
 have nE:=E2.1
 refine w_count (fun k vs h=>∃ b10 b12 b14 b15 b16 b17 b18 b19 b20 b21 b22 b23,(Ext g2 h∧∀ i∈F.code.take k,InsX M F bd i)∧vs=[.agg mc,.agg [.str F.name,.int .i64 F.params,.int .i64 F.vars,cv],.bool bd,.map id,.bool false,.ptr iB 0 0 4,.int .i64 (.ofNat (F.code.map insC).length),.bool false,.int .i64 (.ofNat k),.int .i64 (.ofNat (F.code.map insC).length),b10,cv,b12,.ptr iA 0 0 4,b14,b15,b16,b17,b18,b19,b20,b21,b22,b23]) (F.code.map insC).length ⟨_,_,_,_,_,_,_,_,_,_,_,_,⟨ExtX.refl _ _,by simp⟩,rfl⟩ ?_
 rintro k vs h hk ⟨b10,b12,b14,b15,b16,b17,b18,b19,b20,b21,b22,b23,⟨hE,hOk⟩,rfl⟩
 have q5':=q5.ext0 hE
 have hA':=hA.ext0 hE
 have hB':=hB.ext0 hE
 have hI':HasI h id _:=(hI.ext0 E2).ext0 hE
 have hm':=hmm.ext (E2.trans hE) (Z':=Z) (by simp) fun _ q _=>q
 have hf':=hff.ext (E2.trans hE) (Z':=Z) (by simp) fun _ q _=>q
 have EE:=E2.trans hE
 repeat' (first|refine w_seq ?_|refine w_reg ?_|refine w_e ?_|refine w_rf rfl (by assumption) (by rfl) (by rfl) (by rfl) ?_|refine w_lssN rfl rfl (fun hc=>?_) (fun hc=>?_)|refine w_opk rfl rfl ?_|refine w_cond_t rfl ?_|refine w_cond_f rfl ?_|refine w_skip ?_|refine w_exit rfl ?_)
 ·have hk1:k<(F.code.map insC).length:=by assumption
  have hk2:k<F.code.length:=by omega
  have hS:=slot_at q5' hk1
  rw [List.getElem_map] at hS
  have hti:=ht.2.2.2 _ (List.getElem_mem hk2)
  have hno:FunX M bd F→InsX M F bd F.code[k]:=fun q=>q.2.2.2.2.2 _ (List.getElem_mem hk2)
  have hyes:InsX M F bd F.code[k]→∀ i∈F.code.take (k+1),InsX M F bd i:=fun q i hi=>by
   rw [List.take_succ_eq_append_getElem hk2] at hi
   rcases List.mem_append.1 hi with hi | hi
   ·exact hOk i hi
   ·rw [List.mem_singleton.1 hi];exact q
  generalize F.code[k]=i at *
  obtain ⟨op,a,b⟩:=i
  obtain ⟨to1,to2,ta,tb⟩:=hti
  obtain ⟨o,rfl⟩:∃ o:Nat,op=Int.ofNat o:=⟨op.toNat,(Int.toNat_of_nonneg to1).symm⟩
  refine w_block ?_
  repeat' (first|refine w_seq ?_|refine w_reg ?_)
  refine w_iadrS rfl rfl q5' hk1 ?_
  refine w_loadA rfl hS rfl ?_
  refine w_alloc fun iO h3 hOo hiO hE3=>?_
  skip
  refine w_store rfl rfl hOo rfl rfl (by decide) (by simp) fun h4 hO4 hE4 hn4=>?_
  replace hO4:Own h4 iO [.int .u8 (.ofNat o),.int .i64 a,.int .i64 b]:=hO4
  have E4:Ext h h4:=hE3.step hE4 fun q hq=>by simp at hq;exact .inr (by omega)
  have hA4:=hA'.ext0 E4
  have hB4:=hB'.ext0 E4
  have hI4:HasI h4 id _:=hI'.ext0 E4
  have hm4:=hm'.ext E4 (Z':=Z) (by simp) fun _ q _=>q
  have hf4:=hf'.ext E4 (Z':=Z) (by simp) fun _ q _=>q
  replace EE:=EE.trans E4
  clear hA' hB' hI' hm' hf' hE3 hE4 hOo hS q5'
  repeat' (first|refine w_seq ?_|refine w_reg ?_|refine w_e ?_|refine w_off rfl ?_|refine w_rf rfl (by assumption) (by rfl) (by rfl) (by rfl) ?_|refine w_rfg rfl rfl (by assumption) (by rfl) (by rfl) (by rfl) (by rfl) ?_|refine w_on rfl ?_|refine w_lss rfl rfl (fun hc=>?_) (fun hc=>?_)|refine w_opk rfl rfl ?_|refine w_cond_t rfl ?_|refine w_ret ?_|refine w_rt rfl ?_)
  ·exact fail _ EE fun k=>by have:=(hno k).1.2.2.1;have hc':a<0:=hc;exact absurd this (Int.not_le.2 hc')
  have ha0:0≤a:=by assumption
  refine w_loadA rfl (hA4.at hs.1) (by rw [hs.1];rfl) ?_
  rw [show List.take 4 mc=mc from List.take_of_length_le (by omega)]
  refine w_on rfl (w_loadA rfl (hB4.at rfl) rfl ?_)
  repeat' (first|refine w_rfg rfl rfl (by assumption) (by rfl) (by rfl) (by rfl) (by rfl) ?_|refine w_on rfl ?_)
  refine w_callA [.agg mc,.agg [.str F.name,.int .i64 F.params,.int .i64 F.vars,cv],.int .u8 (.ofNat o)] rfl ((limit_ok hO hm4 hf4 to1 to2).mono fun _ h5 ⟨e,hE5⟩=>?_)
  subst e
  have hO5:=hO4.ext0 hE5
  have hI5:HasI h5 id _:=hI4.ext0 hE5
  replace EE:=EE.trans hE5
  have E5:=E4.trans hE5
  clear hO4 hI4 hA4 hB4 hm4 hf4
  refine w_on rfl (w_chk1 rfl rfl ((hO5.at (hi:=3) rfl).fadr (d:=1) (by simp)) (V.beq_refl _) ?_)
  repeat' (first|refine w_seq ?_|refine w_reg ?_|refine w_e ?_|refine w_off rfl ?_|refine w_rf rfl (by assumption) (by rfl) (by rfl) (by rfl) ?_|refine w_rfg rfl rfl (by assumption) (by rfl) (by rfl) (by rfl) (by rfl) ?_|refine w_on rfl ?_|refine w_neqN rfl rfl (fun hc=>?_) (fun hc=>?_)|refine w_lss rfl rfl (fun hc=>?_) (fun hc=>?_)|refine w_gtr rfl rfl (fun hc=>?_) (fun hc=>?_)|refine w_geq rfl rfl (fun hc=>?_) (fun hc=>?_)|refine w_opk rfl rfl ?_|refine w_cond_t rfl ?_|refine w_cond_f rfl ?_|refine w_skip ?_|refine w_ret ?_|refine w_rt rfl ?_)
  ·exact fail _ EE fun k=>absurd (hno k).1.2.2.2.1 (Int.not_lt.2 (by assumption))
  ·exact fail _ EE fun k=>by have:=(hno k).1.2.2.2.2.1;have hc':b<0:=(by assumption);exact absurd this (Int.not_le.2 hc')
  ·exact fail _ EE fun k=>by have:=(hno k).1.2.2.2.2.2.1;have hc':255<b:=(by assumption);exact absurd this (Int.not_le.2 hc')
  ·exact fail _ EE fun k=>by have q:=(hno k).2 (by assumption);have hc':o≠24:=(by assumption);exact absurd (ofN.1 q) hc'
  all_goals
   have hb24:0<b→o=24:=fun q=>by
    first
     | assumption
     | (have hc':b≤0:=by assumption
        omega)
   have hb0:0≤b:=by assumption
   have hb1:b≤255:=by assumption
   have hlim:a<lim M F (Int.ofNat o):=by assumption
   have ho:=lim_rng (show 0<lim M F (Int.ofNat o) by omega)
   have hab:((a.toNat:Nat):Int)=a:=Int.toNat_of_nonneg ha0
   have hf22:o=22→a∈fnsOf M.roles→¬ FunX M bd F:=fun e q k=>by
    have k1:=(hno k).1.2.2.2.2.2.2.1 (ofN.2 e)
    have k2:=isBody_iff.2 (by rw [hab];exact q)
    rw [k1] at k2
    cases k2
   have hf33:o=33→bd=true→¬ FunX M bd F:=fun e q k=>by
    have k1:=(hno k).1.2.2.2.2.2.2.2.1 (ofN.2 e)
    rw [k1] at q
    cases q
   have hf34:(o=34∨o=26∨o=25)→bd=false→¬ FunX M bd F:=fun e q k=>by
    have k1:=(hno k).1.2.2.2.2.2.2.2.2 (by
     rcases e with e | e | e
     ·exact .inl (ofN.2 e)
     ·exact .inr (.inl (ofN.2 e))
     ·exact .inr (.inr (ofN.2 e)))
    rw [k1] at q
    cases q
   have hgo:(o=22→a∉fnsOf M.roles)→(o=33→bd=false)→((o=34∨o=26∨o=25)→bd=true)→∀ i∈F.code.take (k+1),InsX M F bd i:=fun g1 g2 g3=>hyes ⟨⟨by show (1:Int)≤(o:Int);omega,by show (o:Int)≤34;omega,ha0,hlim,hb0,hb1,fun e=>by
    cases hq:isBody M a.toNat with
    | false=>rfl
    | true=>exact absurd (by have:=isBody_iff.1 hq;rw [hab] at this;exact this) (g1 (ofN.1 e)),fun e=>g2 (ofN.1 e),fun e=>g3 (by
     rcases e with e | e | e
     ·exact .inl (ofN.1 e)
     ·exact .inr (.inl (ofN.1 e))
     ·exact .inr (.inr (ofN.1 e)))⟩,fun q=>ofN.2 (hb24 q)⟩
   have E5':=hE.trans E5
   clear hno hyes hOk
   refine w_block ?_
   cases bd
   all_goals (repeat' (first|refine w_seq ?_|refine w_reg ?_|refine w_e ?_|refine w_rf rfl (by assumption) (by rfl) (by rfl) (by rfl) ?_|refine w_eqlN rfl rfl (fun hc=>?_) (fun hc=>?_)|refine w_addN rfl rfl (by omega) ?_|refine w_opk rfl rfl ?_|refine w_cond_t rfl ?_|refine w_cond_f rfl ?_|refine w_skip ?_|refine w_ret ?_|refine w_rt rfl ?_))
   all_goals first
    | exact fail _ EE (hf33 (by assumption) rfl)
    | exact fail _ EE (hf34 (by omega) rfl)
    | exact ⟨hk1,_,_,_,_,_,_,_,_,_,_,_,_,⟨E5',hgo (fun q=>absurd q (by omega)) (fun q=>by first | rfl | omega) (fun q=>by first | rfl | omega)⟩,rfl⟩
    | skip
   all_goals
    refine w_lookI rfl rfl hI5 ?_
    rw [getI_ones]
    by_cases hmem:a∈fnsOf M.roles
    ·rw [if_pos hmem]
     refine w_opk (v:=.bool true) rfl rfl ?_
     repeat' (first|refine w_seq ?_|refine w_reg ?_|refine w_e ?_|refine w_opk rfl rfl ?_|refine w_cond_t rfl ?_|refine w_ret ?_|refine w_rt rfl ?_)
     exact fail _ EE (hf22 (by assumption) hmem)
    ·rw [if_neg hmem]
     refine w_opk (v:=.bool false) rfl rfl ?_
     repeat' (first|refine w_reg ?_|refine w_e ?_|refine w_addN rfl rfl (by omega) ?_|refine w_opk rfl rfl ?_|refine w_cond_f rfl ?_|refine w_skip ?_)
     exact ⟨hk1,_,_,_,_,_,_,_,_,_,_,_,_,⟨E5',hgo (fun _=>hmem) (fun q=>by omega) (fun q=>by omega)⟩,rfl⟩
 ·have hkk:k=F.code.length:=by omega
  rw [hkk,List.take_length] at hOk
  have hl1:(F.code.map insC).length - 1<(F.code.map insC).length:=by omega
  have hl2:(F.code.map insC).length - 1<F.code.length:=by omega
  have hS:=slot_at q5' hl1
  rw [List.getElem_map] at hS
  have hti:=ht.2.2.2 _ (List.getElem_mem hl2)
  have hla:F.code.getLast? = some F.code[(F.code.map insC).length - 1]:=by
   rw [List.getLast?_eq_getElem?,← hmap]
   exact List.getElem?_eq_getElem hl2
  generalize F.code[(F.code.map insC).length - 1]=i at *
  obtain ⟨op,a,b⟩:=i
  obtain ⟨to1,to2,ta,tb⟩:=hti
  obtain ⟨o,rfl⟩:∃ o:Nat,op=Int.ofNat o:=⟨op.toNat,(Int.toNat_of_nonneg to1).symm⟩
  have hlo:lastOk F.code↔(o=27∨o=33∨o=34∨o=26∨o=25):=by
   unfold lastOk
   rw [hla]
   show isLast (Int.ofNat o)↔_
   unfold isLast
   rw [show (Int.ofNat o=27)↔o=27 from ofN,show (Int.ofNat o=33)↔o=33 from ofN,show (Int.ofNat o=34)↔o=34 from ofN,show (Int.ofNat o=26)↔o=26 from ofN,show (Int.ofNat o=25)↔o=25 from ofN]
  have hno:FunX M bd F→(o=27∨o=33∨o=34∨o=26∨o=25):=fun k=>hlo.1 k.2.2.2.2.1
  have hyes:(o=27∨o=33∨o=34∨o=26∨o=25)→FunX M bd F:=fun k=>⟨p0,p1,p2,by omega,hlo.2 k,hOk⟩
  skip
  rw [show wrapK IntKind.i64 (Int.ofNat (F.code.map insC).length - Int.ofNat 1)=Int.ofNat ((F.code.map insC).length - 1) from by
   rw [wrapK_eq,show Int.ofNat (F.code.map insC).length - Int.ofNat 1=Int.ofNat ((F.code.map insC).length - 1) by
    show (((F.code.map insC).length:Nat):Int) - 1=(((F.code.map insC).length - 1:Nat):Int)
    omega]
   exact wrap_i64_nat (by omega)]
  refine w_iadrS rfl rfl q5' hl1 ?_
  refine w_fadr rfl hS rfl fun hS1=>?_
  refine w_load1 rfl hS1 rfl ?_
  repeat' (first|refine w_e ?_)
  refine w_block ?_
  repeat' (first|refine w_seq ?_|refine w_reg ?_|refine w_e ?_|refine w_eqlN rfl rfl (fun hc=>?_) (fun hc=>?_)|refine w_opk rfl rfl ?_|refine w_cond_t rfl ?_|refine w_cond_f rfl ?_|refine w_skip ?_|refine w_ret ?_|refine w_rt rfl ?_)
  all_goals first
   | exact fail _ EE fun k=>by have:=hno k;omega
   | exact ⟨⟨true,rfl,fun _=>hyes (by omega),fun _=>rfl⟩,EE⟩
end AmT
namespace AmT
open Go Am
set_option maxRecDepth 100000
set_option maxHeartbeats 8000000
variable {O:CallF}
theorem check_ok (hO:OffCk O) {Z:Nat→Prop} {h0:Heap} {mc:List V} {M:ModA} (hm:ModR Z h0 mc M) (hz:∀ i,Z i→i<h0.n) (ht:TyM M) :
  WPc tab.get O 32 [.agg mc] h0 (fun v h'=>(∃ e:Int,v=.int .i64 e∧(e=0↔ModX M))∧Ext h0 h'):=by
 have hs:=hm.shape
 refine w_fn' (hO.ck _ _) rfl rfl (by simp only [c32,initV,nth] <;> rfl) ?_
 refine w_seq (w_reg (w_box rfl hs.1 hs.2 fun iA h1 hA hiA hE1=>?_))
 have hmm:=hm
 obtain ⟨cs,ts,fns,rs,lc,lfn,lr,rfl,r1,v1,r2,r3,a3,r4,a4⟩:=hm
 replace hA:Own h1 iA [cs,ts,fns,rs]:=hA
 have q1:=r1.1.ext0 hE1
 have q2:=r2.1.ext0 hE1
 have q3:=r3.1.ext0 hE1
 have q4:=r4.1.ext0 hE1
 have hlr:=a4.1
 have hlf:=a3.1
 have hlc:=v1.len
 have hlt:(M.tags.map tagC).length=M.tags.length:=List.length_map ..
 have b1:=ht.cl
 have b2:=ht.tl
 have b3:=ht.fl
 have b4:=ht.rl
 have fail:∀ h',Ext h0 h'→¬ ModX M→(∃ e:Int,packV [.int .i64 (.ofNat 120)]=.int .i64 e∧(e=0↔ModX M))∧Ext h0 h':=fun h' e k=>⟨⟨_,rfl,fun q=>absurd q (by decide),fun q=>absurd q k⟩,e⟩
 repeat' (first|refine w_seq ?_|refine w_reg ?_|refine w_e ?_|refine w_rf rfl (by assumption) (by rfl) (by rfl) (by rfl) ?_|refine w_len rfl (by assumption) ?_|refine w_opk rfl rfl ?_)
 refine w_mx3 rfl rfl ?_
 repeat' (first|refine w_seq ?_|refine w_reg ?_|refine w_e ?_|refine w_gtrN rfl rfl (fun hc=>?_) (fun hc=>?_)|refine w_opk rfl rfl ?_|refine w_cond_t rfl ?_|refine w_cond_f rfl ?_|refine w_skip ?_|refine w_ret ?_|refine w_rt rfl ?_)
 ·exact fail _ hE1 fun k=>by have:=k.len;omega
 have hlen:M.consts.length≤4096∧M.tags.length≤4096∧M.fns.length≤4096∧M.roles.length≤4096:=by
  have:max (max (max lc.length (M.tags.map tagC).length) lfn.length) lr.length≤4096:=by assumption
  omega
 skip
 refine w_loadA rfl (hA.at rfl) rfl ?_
 refine w_callA [.agg [cs,ts,fns,rs]] rfl ((parts_ok hO (hmm.ext hE1 (Z':=Z) (by simp) fun _ q _=>q) (fun i hi=>by have:=hz i hi;have:=hE1.1;omega) ht).mono fun _ h2 ⟨⟨b,m,e,hb,hmap⟩,hE2⟩=>?_)
 subst e
 have E2:=hE1.trans hE2
 have hA2:=hA.ext0 hE2
 replace q1:=q1.ext0 hE2
 replace q3:=q3.ext0 hE2
 have v2:=v1.ext0 E2
 repeat' (first|refine w_seq ?_|refine w_reg ?_|refine w_e ?_|refine w_rf rfl (by assumption) (by rfl) (by rfl) (by rfl) ?_|refine w_len rfl (by assumption) ?_|refine w_opk rfl rfl ?_)
 refine w_count (fun j vs h=>∃ b6 b9 b10 b11 b12 b13 b14 b16 b17,∃ t:Bool,((t=true↔RolesX M M.roles∧∀ c∈M.consts.take j,cVal.ok c)∧Ext h2 h)∧vs=[.agg [cs,ts,fns,rs],.int .i64 (.ofNat 0),.ptr iA 0 0 4,.bool false,.int .i64 (.ofNat j),.int .i64 (.ofNat lc.length),b6,cs,.bool t,b9,b10,b11,b12,b13,b14,m,b16,b17]) lc.length ⟨_,_,_,_,_,_,_,_,_,b,⟨by simpa using hb,ExtX.refl _ _⟩,rfl⟩ ?_
 rintro j vs h hj ⟨b6,b9,b10,b11,b12,b13,b14,b16,b17,t,⟨ht1,hE⟩,rfl⟩
 have q1':=q1.ext0 hE
 have hA':=hA2.ext0 hE
 have E:=E2.trans hE
 repeat' (first|refine w_seq ?_|refine w_reg ?_|refine w_e ?_|refine w_rf rfl (by assumption) (by rfl) (by rfl) (by rfl) ?_|refine w_lssN rfl rfl (fun hc=>?_) (fun hc=>?_)|refine w_cond_t rfl ?_|refine w_cond_f rfl ?_|refine w_skip ?_|refine w_exit rfl ?_)
 ·have hj1:j<lc.length:=by assumption
  have hj2:j<M.consts.length:=by omega
  have ka:=(v2.get hj2 hj1).ext0 hE
  have hsh:=ka.shape
  have hrg:=(ht.cs _ (List.getElem_mem hj2)).1
  have hsn:(∀ c∈M.consts.take (j+1),cVal.ok c)↔(∀ c∈M.consts.take j,cVal.ok c)∧cVal.ok M.consts[j]:=by
   rw [List.take_succ_eq_append_getElem hj2]
   simp only [List.mem_append,List.mem_singleton,or_imp,forall_and,forall_eq]
  generalize M.consts[j]=a at *
  refine w_block ?_
  repeat' (first|refine w_seq ?_|refine w_reg ?_)
  refine w_iadrS rfl rfl q1' hj1 ?_
  refine w_loadA rfl (slot_at q1' hj1) (by rw [hsh.1];rfl) ?_
  rw [show List.take 4 lc[j]=lc[j] from List.take_of_length_le (by omega)]
  refine w_new (fun p=>rfl) hsh.1 rfl hsh.2 fun iX h3 hX hiX hE3=>?_
  cases t
  ·repeat' (first|refine w_reg ?_|refine w_e ?_|refine w_off rfl ?_|refine w_addN rfl rfl (by omega) ?_|refine w_opk rfl rfl ?_)
   exact ⟨hj1,_,_,_,_,_,_,_,_,_,false,⟨⟨fun q=>absurd q (by decide),fun q=>ht1.2 ⟨q.1,(hsn.1 q.2).1⟩⟩,hE.trans hE3⟩,rfl⟩
  ·repeat' (first|refine w_reg ?_|refine w_e ?_|refine w_on rfl ?_|refine w_opk rfl rfl ?_)
   refine w_loadA rfl (hX.at hsh.1) (by show Nat.ble 4 lc[j].length=true;rw [hsh.1];rfl) ?_
   rw [show List.take 4 (V.agg lc[j]).cells=lc[j] from List.take_of_length_le (by show lc[j].length≤4;omega)]
   refine w_on rfl (w_callA [.agg lc[j]] rfl ((vright_ok hO.toOffVR (ka.ext0 hE3) (fun i hi=>by have:=hz i hi;have:=E.1;have:=hE3.1;omega) hrg).mono fun _ h4 ⟨⟨r,e,hr⟩,hE4⟩=>?_))
   subst e
   repeat' (first|refine w_reg ?_|refine w_e ?_|refine w_addN rfl rfl (by omega) ?_|refine w_opk rfl rfl ?_)
   exact ⟨hj1,_,_,_,_,_,_,_,_,_,r,⟨⟨fun q=>⟨(ht1.1 rfl).1,hsn.2 ⟨(ht1.1 rfl).2,hr.1 q⟩⟩,fun q=>hr.2 (hsn.1 q.2).2⟩,hE.trans (hE3.trans hE4)⟩,rfl⟩
 have hjj:j=M.consts.length:=by omega
 rw [hjj,List.take_length] at ht1
 clear hj q1' q1
 have q3h:=q3.ext0 hE
 have nE:=E.1
 repeat' (first|refine w_e ?_|refine w_len rfl (by assumption) ?_|refine w_opk rfl rfl ?_)
 refine w_count (fun k vs h'=>∃ b12 b14 b16 b17,∃ u:Bool,((u=true↔(RolesX M M.roles∧∀ c∈M.consts,cVal.ok c)∧∀ (q:Nat) (F:FnA),M.fns[q]? = some F→q<k→FunX M (isBody M q) F)∧Ext h h')∧vs=[.agg [cs,ts,fns,rs],.int .i64 (.ofNat 0),.ptr iA 0 0 4,.bool false,.int .i64 (.ofNat j),.int .i64 (.ofNat lc.length),.bool false,cs,.bool u,b9,.int .i64 (.ofNat k),.int .i64 (.ofNat lfn.length),b12,fns,b14,m,b16,b17]) lfn.length ⟨_,_,_,_,t,⟨⟨fun q=>⟨ht1.1 q,fun _ _ _ q=>absurd q (Nat.not_lt_zero _)⟩,fun q=>ht1.2 q.1⟩,ExtX.refl _ _⟩,rfl⟩ ?_
 rintro k vs h' hk ⟨b12,b14,b16,b17,u,⟨hu,hEk⟩,rfl⟩
 have q3':=q3h.ext0 hEk
 have hAk:=hA'.ext0 hEk
 have EE:=E.trans hEk
 repeat' (first|refine w_seq ?_|refine w_reg ?_|refine w_e ?_|refine w_lssN rfl rfl (fun hc=>?_) (fun hc=>?_)|refine w_opk rfl rfl ?_|refine w_cond_t rfl ?_|refine w_cond_f rfl ?_|refine w_skip ?_|refine w_exit rfl ?_)
 ·have hk1:k<lfn.length:=by assumption
  have hk2:k<M.fns.length:=by omega
  have hS:=slot_at q3' hk1
  have hft:=ht.fs _ (List.getElem_mem hk2)
  have hfr0:=(a3.get hk1 hk2).ext EE (Z':=Z) (by simp) fun _ q _=>q
  have hsn:(∀ (q:Nat) (F:FnA),M.fns[q]? = some F→q<k+1→FunX M (isBody M q) F)↔(∀ (q:Nat) (F:FnA),M.fns[q]? = some F→q<k→FunX M (isBody M q) F)∧FunX M (isBody M k) M.fns[k]:=
   ⟨fun g=>⟨fun q F hF hq=>g q F hF (by omega),g k _ (List.getElem?_eq_getElem hk2) (by omega)⟩,fun g q F hF hq=>by
    by_cases e:q=k
    ·subst e
     rw [List.getElem?_eq_getElem hk2] at hF
     cases hF
     exact g.2
    ·exact g.1 q F hF (by omega)⟩
  generalize M.fns[k]=F at *
  have hfc:lfn[k].length=4∧allOne lfn[k]=true:=by
   obtain ⟨cv,e,r⟩:=hfr0
   rw [e]
   exact ⟨rfl,by simp only [allOne,r.1.one];rfl⟩
  refine w_block ?_
  repeat' (first|refine w_seq ?_|refine w_reg ?_|refine w_opk rfl rfl ?_)
  refine w_iadrS rfl rfl q3' hk1 ?_
  refine w_loadA rfl hS (by rw [hfc.1];rfl) ?_
  rw [show List.take 4 lfn[k]=lfn[k] from List.take_of_length_le (by omega)]
  refine w_alloc fun iX h3 hX hiX hE3=>?_
  repeat' (first|refine w_opk rfl rfl ?_)
  refine w_store rfl rfl hX hfc.1 hfc.2 (by decide) (by simp) fun h4 hX4 hE4 hn4=>?_
  replace hX4:Own h4 iX lfn[k]:=by
   have:splice [S0,N0,N0,V.nils] 0 lfn[k]=lfn[k]:=over_all (by rw [hfc.1];rfl)
   rw [← this];exact hX4
  have E4:Ext h' h4:=hE3.step hE4 fun q hq=>by simp at hq;exact .inr (by omega)
  cases u
  ·repeat' (first|refine w_reg ?_|refine w_e ?_|refine w_off rfl ?_|refine w_addN rfl rfl (by omega) ?_|refine w_opk rfl rfl ?_)
   exact ⟨hk1,_,_,_,_,false,⟨⟨fun q=>absurd q (by decide),fun q=>hu.2 ⟨q.1,(hsn.1 q.2).1⟩⟩,hEk.trans E4⟩,rfl⟩
  ·have hu1:=hu.1 rfl
   obtain ⟨id,rfl,hI,_⟩:=hmap (hb.2 hu1.1.1)
   have hI4:HasI h4 id _:=((hI.ext0 hE).ext0 hEk).ext0 E4
   have hA4:=hAk.ext0 E4
   repeat' (first|refine w_reg ?_|refine w_e ?_|refine w_on rfl ?_|refine w_opk rfl rfl ?_)
   refine w_loadA rfl (hA4.at rfl) rfl ?_
   refine w_on rfl (w_loadA rfl (hX4.at hfc.1) (by rw [hfc.1];rfl) ?_)
   rw [show List.take 4 lfn[k]=lfn[k] from List.take_of_length_le (by omega)]
   repeat' (first|refine w_on rfl ?_|refine w_opk rfl rfl ?_)
   refine w_lookI rfl rfl hI4 ?_
   rw [getI_ones]
   have hm4:=hmm.ext (EE.trans E4) (Z':=Z) (by simp) fun _ q _=>q
   have hf4:=hfr0.ext E4 (Z':=Z) (by simp) fun _ q _=>q
   have hz4:∀ i,Z i→i<h4.n:=fun i hi=>by have:=hz i hi;have:=EE.1;have:=E4.1;omega
   have hbd:(isBody M k=true∧Int.ofNat k∈fnsOf M.roles)∨(isBody M k=false∧¬ Int.ofNat k∈fnsOf M.roles):=by
    cases hq:isBody M k with
    | true=>exact .inl ⟨rfl,isBody_iff.1 hq⟩
    | false=>exact .inr ⟨rfl,fun e=>by rw [isBody_iff.2 e] at hq;cases hq⟩
   rcases hbd with ⟨eb,hmem⟩ | ⟨eb,hmem⟩
   ·rw [if_pos hmem]
    refine w_on rfl (w_opk (v:=.bool true) rfl rfl ?_)
    repeat' (first|refine w_on rfl ?_|refine w_opk rfl rfl ?_)
    refine w_callA [.agg [cs,ts,fns,rs],.agg lfn[k],.bool true,.map id] rfl ((fits_ok hO hm4 hf4 hz4 hft hI4).mono fun _ h5 ⟨⟨r,e,hr⟩,hE5⟩=>?_)
    subst e
    rw [eb] at hsn
    repeat' (first|refine w_reg ?_|refine w_e ?_|refine w_addN rfl rfl (by omega) ?_|refine w_opk rfl rfl ?_)
    exact ⟨hk1,_,_,_,_,r,⟨⟨fun q=>⟨hu1.1,hsn.2 ⟨hu1.2,hr.1 q⟩⟩,fun q=>hr.2 (hsn.1 q.2).2⟩,hEk.trans (E4.trans hE5)⟩,rfl⟩
   ·rw [if_neg hmem]
    refine w_on rfl (w_opk (v:=.bool false) rfl rfl ?_)
    repeat' (first|refine w_on rfl ?_|refine w_opk rfl rfl ?_)
    refine w_callA [.agg [cs,ts,fns,rs],.agg lfn[k],.bool false,.map id] rfl ((fits_ok hO hm4 hf4 hz4 hft hI4).mono fun _ h5 ⟨⟨r,e,hr⟩,hE5⟩=>?_)
    subst e
    rw [eb] at hsn
    repeat' (first|refine w_reg ?_|refine w_e ?_|refine w_addN rfl rfl (by omega) ?_|refine w_opk rfl rfl ?_)
    exact ⟨hk1,_,_,_,_,r,⟨⟨fun q=>⟨hu1.1,hsn.2 ⟨hu1.2,hr.1 q⟩⟩,fun q=>hr.2 (hsn.1 q.2).2⟩,hEk.trans (E4.trans hE5)⟩,rfl⟩
 ·have hkk:k=M.fns.length:=by omega
  cases u
  ·have hX:¬ ModX M:=fun q=>absurd (hu.2 ⟨⟨q.rs,q.cs⟩,fun k F hF _=>q.fs k F hF⟩) (by decide)
   repeat' (first|refine w_seq ?_|refine w_reg ?_|refine w_e ?_|refine w_opk rfl rfl ?_|refine w_cond_t rfl ?_|refine w_ret ?_|refine w_rt rfl ?_)
   exact fail _ EE hX
  ·have h1:=hu.1 rfl
   have hX:ModX M:=⟨hlen,h1.1.1,h1.1.2,fun q F hF=>h1.2 q F hF (by have:=(List.getElem?_eq_some_iff.1 hF).1;omega)⟩
   repeat' (first|refine w_seq ?_|refine w_reg ?_|refine w_e ?_|refine w_opk rfl rfl ?_|refine w_cond_f rfl ?_|refine w_skip ?_|refine w_ret ?_|refine w_rt rfl ?_)
   exact ⟨⟨_,rfl,fun _=>hX,fun _=>rfl⟩,EE⟩
end AmT
namespace AmT
open Go Am
set_option maxRecDepth 100000
set_option maxHeartbeats 8000000
variable {O:CallF}
structure OffIc (O:CallF):Prop extends OffCk O where
 wi:∀ a h,O 87 a h=none
 sh:∀ a h,O 140 a h=none
 m1:∀ a h,O 141 a h=none
 my:∀ a h,O 81 a h=none
 b1:∀ a h,O 138 a h=none
 bo:∀ a h,O 78 a h=none
 k1:∀ a h,O 143 a h=none
 bk:∀ a h,O 84 a h=none
 i1:∀ a h,O 139 a h=none
 i2:∀ a h,O 57 a h=none
 i3:∀ a h,O 145 a h=none
 i4:∀ a h,O 142 a h=none
 i5:∀ a h,O 200 a h=none
 j1:∀ a h,O 79 a h=none
 j2:∀ a h,O 102 a h=none
 j3:∀ a h,O 85 a h=none
 j4:∀ a h,O 82 a h=none
 j5:∀ a h,O 144 a h=none
 c1:∀ a h,O 80 a h=none
 c2:∀ a h,O 83 a h=none
 c3:∀ a h,O 86 a h=none
 ic:∀ a h,O 33 a h=none
theorem within_ok (hO:OffIc O) {h0:Heap} {n b:Int} : WPc tab.get O 87 [.int .i64 n,.int .i64 b] h0 (fun v h'=>v=.bool (withinB n b)∧h'=h0):=by
 refine w_fn' (hO.wi _ _) rfl rfl (by simp only [c87,initV,nth] <;> rfl) ?_
 by_cases h1:0≤n
 ·by_cases h2:n<b
  ·have e:withinB n b=true:=by unfold withinB;rw [decide_eq_true h1,decide_eq_true h2];rfl
   rw [e]
   repeat' (first|refine w_seq ?_|refine w_reg ?_|refine w_e ?_|refine w_off rfl ?_|refine w_on rfl ?_|refine w_lss rfl rfl (fun hc=>?_) (fun hc=>?_)|refine w_geq rfl rfl (fun hc=>?_) (fun hc=>?_)|refine w_opk rfl rfl ?_|refine w_ret ?_|refine w_rt rfl ?_)
   ·exact ⟨rfl,rfl⟩
   ·exact absurd h2 (Int.not_lt.2 (by assumption))
   ·exact absurd h1 (Int.not_le.2 (by assumption))
  ·have e:withinB n b=false:=withinB_of (by omega)
   rw [e]
   repeat' (first|refine w_seq ?_|refine w_reg ?_|refine w_e ?_|refine w_off rfl ?_|refine w_on rfl ?_|refine w_lss rfl rfl (fun hc=>?_) (fun hc=>?_)|refine w_geq rfl rfl (fun hc=>?_) (fun hc=>?_)|refine w_opk rfl rfl ?_|refine w_ret ?_|refine w_rt rfl ?_)
   ·exact absurd (by assumption) h2
   ·exact ⟨rfl,rfl⟩
   ·exact absurd h1 (Int.not_le.2 (by assumption))
 ·have e:withinB n b=false:=by unfold withinB;rw [decide_eq_false h1];rfl
  rw [e]
  repeat' (first|refine w_seq ?_|refine w_reg ?_|refine w_e ?_|refine w_off rfl ?_|refine w_on rfl ?_|refine w_lss rfl rfl (fun hc=>?_) (fun hc=>?_)|refine w_geq rfl rfl (fun hc=>?_) (fun hc=>?_)|refine w_opk rfl rfl ?_|refine w_ret ?_|refine w_rt rfl ?_)
  ·exact absurd (by assumption) h1
  ·exact absurd (by assumption) h1
  ·exact ⟨rfl,rfl⟩
theorem shape_ok (hO:OffIc O) {h0:Heap} {n:Nat} (hn:n≤255):WPc tab.get O 140 [.int .u8 (.ofNat n)] h0 (fun v h'=>v=.str (shapeN n)∧h'=h0):=by
 refine w_fn' (hO.sh _ _) rfl rfl (by simp only [c140,initV,nth] <;> rfl) ?_
 have fin:∀ s:List UInt8,s=shapeN n→packV [.str s]=.str (shapeN n)∧h0=h0:=fun s e=>by rw [e];exact ⟨rfl,rfl⟩
 repeat' (first|refine w_seq ?_|refine w_reg ?_|refine w_e ?_|refine w_opk rfl rfl ?_)
 refine w_block ?_
 repeat' (first|refine w_seq ?_|refine w_reg ?_|refine w_e ?_|refine w_off rfl ?_|refine w_on rfl ?_|refine w_leqN rfl rfl (fun hc=>?_) (fun hc=>?_)|refine w_geqN rfl rfl (fun hc=>?_) (fun hc=>?_)|refine w_eqlN rfl rfl (fun hc=>?_) (fun hc=>?_)|refine w_opk rfl rfl ?_|refine w_cond_t rfl ?_|refine w_cond_f rfl ?_|refine w_skip ?_|refine w_ret ?_|refine w_rt rfl ?_)
 all_goals
  refine fin _ ?_
  unfold shapeN
  repeat (first | rw [if_pos (by omega)] | rw [if_neg (by omega)])
theorem let_ok (hO:OffIc O) {h0:Heap} {mc fc:List V} {M:ModA} {F:FastA} {Z:Nat→Prop} {iF iM k:Nat} {n:Int} (hm:ModR Z h0 mc M) (hf:FastR Z h0 fc F) (hF:Own h0 iF fc) (hM:Own h0 iM mc) :
  WPc tab.get O 141 [.int .u8 (.ofNat k),.int .i64 n,.ptr iF 0 0 5,.ptr iM 0 0 4] h0 (fun v h'=>v=.bool (letB M F k n)∧h'=h0):=by
 refine w_fn' (hO.m1 _ _) rfl rfl (by simp only [c141,initV,nth] <;> rfl) ?_
 obtain ⟨cs,ts,fns,rs,lc,lfn,lr,rfl,r1,v1,r2,r3,a3,r4,a4⟩:=hm
 obtain ⟨vc,ve,vn,le,rfl,s1,s2,s3,s4⟩:=hf
 have q1:=r1.1
 have q2:=r2.1
 have q3:=s1.1
 have q4:=s2.1
 have n1:=v1.len
 have n2:(M.tags.map tagC).length=M.tags.length:=List.length_map ..
 have n3:(F.2.2.1.map specC).length=F.2.2.1.length:=List.length_map ..
 have n4:=s3.1
 have fin:∀ b:Bool,letB M F k n=b→packV [.bool b]=.bool (letB M F k n)∧h0=h0:=fun b e=>by rw [e];exact ⟨rfl,rfl⟩
 repeat' (first|refine w_seq ?_|refine w_reg ?_|refine w_e ?_|refine w_opk rfl rfl ?_)
 refine w_block ?_
 repeat' (first|refine w_seq ?_|refine w_reg ?_|refine w_e ?_|refine w_off rfl ?_|refine w_rf rfl (by assumption) (by rfl) (by rfl) (by rfl) ?_|refine w_on rfl ?_|refine w_len rfl (by assumption) ?_|refine w_eqlN rfl rfl (fun hc=>?_) (fun hc=>?_)|refine w_leq rfl rfl (fun hc=>?_) (fun hc=>?_)|refine w_geq rfl rfl (fun hc=>?_) (fun hc=>?_)|refine w_eql rfl rfl (fun hc=>?_) (fun hc=>?_)|refine w_opk rfl rfl ?_|refine w_cond_t rfl ?_|refine w_cond_f rfl ?_|refine w_skip ?_|refine w_ret ?_|refine w_rt rfl ?_)
 ·refine w_callA [.int .i64 n,.int .i64 F.2.1] rfl ((within_ok hO).mono fun _ h1 ⟨e,eh⟩=>?_)
  subst e eh
  repeat' (first|refine w_e ?_|refine w_opk rfl rfl ?_|refine w_ret ?_|refine w_rt rfl ?_)
  refine fin _ ?_
  unfold letB
  rw [if_pos (by assumption)]
 ·refine w_callA [.int .i64 n,.int .i64 (.ofNat lc.length)] rfl ((within_ok hO).mono fun _ h1 ⟨e,eh⟩=>?_)
  subst e eh
  repeat' (first|refine w_e ?_|refine w_opk rfl rfl ?_|refine w_ret ?_|refine w_rt rfl ?_)
  refine fin _ ?_
  unfold letB
  rw [if_neg (by omega),if_pos (by assumption),n1]
  rfl
 ·refine w_callA [.int .i64 n,.int .i64 (.ofNat (M.tags.map tagC).length)] rfl ((within_ok hO).mono fun _ h1 ⟨e,eh⟩=>?_)
  subst e eh
  repeat' (first|refine w_e ?_|refine w_opk rfl rfl ?_|refine w_ret ?_|refine w_rt rfl ?_)
  refine fin _ ?_
  unfold letB
  rw [if_neg (by omega),if_neg (by omega),if_pos (by assumption),n2]
  rfl
 ·refine w_callA [.int .i64 n,.int .i64 (.ofNat (F.2.2.1.map specC).length)] rfl ((within_ok hO).mono fun _ h1 ⟨e,eh⟩=>?_)
  subst e eh
  repeat' (first|refine w_e ?_|refine w_opk rfl rfl ?_|refine w_ret ?_|refine w_rt rfl ?_)
  refine fin _ ?_
  unfold letB
  rw [if_neg (by omega),if_neg (by omega),if_neg (by omega),if_pos (by assumption),n3]
  rfl
 all_goals first
  | (refine w_callA [.int .i64 n,.int .i64 (.ofNat 256)] rfl ((within_ok hO).mono fun _ h1 ⟨e,eh⟩=>?_)
     subst e eh
     repeat' (first|refine w_e ?_|refine w_opk rfl rfl ?_|refine w_ret ?_|refine w_rt rfl ?_)
     refine fin _ ?_
     unfold letB
     repeat (first | rw [if_pos (by omega)] | rw [if_neg (by omega)])
     rfl)
  | (refine w_callA [.int .i64 n,.int .i64 (.ofNat le.length)] rfl ((within_ok hO).mono fun _ h1 ⟨e,eh⟩=>?_)
     subst e eh
     repeat' (first|refine w_e ?_|refine w_opk rfl rfl ?_|refine w_ret ?_|refine w_rt rfl ?_)
     refine fin _ ?_
     unfold letB
     repeat (first | rw [if_pos (by omega)] | rw [if_neg (by omega)])
     rw [n4]
     rfl)
  | (refine fin _ ?_
     unfold letB
     repeat (first | rw [if_pos (by omega)] | rw [if_neg (by omega)])
     first
      | exact decide_eq_true (by assumption)
      | exact decide_eq_false (by assumption)
      | (rw [decide_eq_true (show (1:Int)≤n from by assumption),decide_eq_true (show n≤(5:Int) from by assumption)]
         rfl)
      | (rw [decide_eq_false (show ¬ (1:Int)≤n from Int.not_le.2 (by assumption))]
         rfl)
      | rw [decide_eq_false (show ¬ n≤(5:Int) from Int.not_le.2 (by assumption)),Bool.and_false])
theorem may_ok (hO:OffIc O) {Z:Nat→Prop} {h0:Heap} {mc fc:List V} {M:ModA} {F:FastA} {s:SpecA} (hm:ModR Z h0 mc M) (hf:FastR Z h0 fc F) (h1:0≤s.1∧s.1≤255) :
  WPc tab.get O 81 [.agg mc,.agg fc,.agg (specC s)] h0 (fun v h'=>(∃ b,v=.bool b∧(b=true→MayS M F s))∧Ext h0 h'):=by
 have hms:=hm.shape
 have hfs:fc.length=5∧allOne fc=true:=by
  obtain ⟨vc,ve,vn,le,rfl,s1,s2,s3,s4⟩:=hf
  exact ⟨rfl,by simp only [allOne,s1.1.one,s2.1.one,s4.1.one];rfl⟩
 refine w_fn' (hO.my _ _) rfl rfl (by simp only [c81,initV,nth] <;> rfl) ?_
 obtain ⟨o,a,b,c,ld,ow,ex⟩:=s
 obtain ⟨n,rfl⟩:∃ n:Nat,o=Int.ofNat n:=⟨o.toNat,(Int.toNat_of_nonneg h1.1).symm⟩
 refine w_seq (w_reg (w_box rfl hms.1 hms.2 fun iM g1 hM hiM gE1=>?_))
 refine w_box rfl hfs.1 hfs.2 fun iF g2 hF hiF gE2=>?_
 refine w_box rfl rfl rfl fun iS g3 hS hiS gE3=>?_
 have E3:=(gE1.trans gE2).trans gE3
 replace hM:Own g3 iM mc:=(hM.ext0 gE2).ext0 gE3
 replace hF:Own g3 iF fc:=hF.ext0 gE3
 replace hS:Own g3 iS [.int .u8 (.ofNat n),.int .i64 a,.int .i64 b,.int .i64 c,.int .i64 ld,.int .i64 ow,.int .i64 ex]:=hS
 have hm3:=hm.ext E3 (Z':=Z) (by simp) fun _ q _=>q
 have hf3:=hf.ext0 E3
 have hn:n≤255:=by have:(n:Int)≤255:=h1.2;omega
 have fail:∀ h',Ext h0 h'→(∃ b',packV [.bool false]=.bool b'∧(b'=true→MayS M F (Int.ofNat n,a,b,c,ld,ow,ex)))∧Ext h0 h':=fun h' e=>⟨⟨false,rfl,fun q=>absurd q (by decide)⟩,e⟩
 repeat' (first|refine w_seq ?_|refine w_reg ?_|refine w_e ?_|refine w_rf rfl (by assumption) (by rfl) (by rfl) (by rfl) ?_|refine w_opk rfl rfl ?_)
 refine w_callA [.int .u8 (.ofNat n)] rfl ((shape_ok hO hn).mono fun _ h4 ⟨e,eh⟩=>?_)
 subst e eh
 repeat' (first|refine w_seq ?_|refine w_reg ?_|refine w_e ?_|refine w_opk rfl rfl ?_)
 by_cases hs:shapeN n=[]
 ·rw [eqBytes_iff.2 hs]
  repeat' (first|refine w_seq ?_|refine w_reg ?_|refine w_e ?_|refine w_off rfl ?_|refine w_opk rfl rfl ?_|refine w_cond_t rfl ?_|refine w_ret ?_|refine w_rt rfl ?_)
  exact fail _ E3
 have hs':eqBytes (shapeN n) []=false:=by
  cases hq:eqBytes (shapeN n) [] with
  | false=>rfl
  | true=>exact absurd (eqBytes_iff.1 hq) hs
 rw [hs']
 repeat' (first|refine w_rfg rfl rfl (by assumption) (by rfl) (by rfl) (by rfl) (by rfl) ?_|refine w_on rfl ?_)
 refine w_callA [.int .i64 ld,.int .i64 (.ofNat 16385)] rfl ((within_ok hO).mono fun _ h5 ⟨e,eh⟩=>?_)
 subst e eh
 cases hw1:withinB ld (Int.ofNat 16385) with
 | false=>
  repeat' (first|refine w_seq ?_|refine w_reg ?_|refine w_e ?_|refine w_off rfl ?_|refine w_on rfl ?_|refine w_opk rfl rfl ?_|refine w_cond_t rfl ?_|refine w_ret ?_|refine w_rt rfl ?_)
  exact fail _ E3
 | true=>
 repeat' (first|refine w_rfg rfl rfl (by assumption) (by rfl) (by rfl) (by rfl) (by rfl) ?_|refine w_on rfl ?_|refine w_opk rfl rfl ?_)
 refine w_callA [.int .i64 ow,.int .i64 (.ofNat 2)] rfl ((within_ok hO).mono fun _ h5 ⟨e,eh⟩=>?_)
 subst e eh
 cases hw2:withinB ow (Int.ofNat 2) with
 | false=>
  repeat' (first|refine w_seq ?_|refine w_reg ?_|refine w_e ?_|refine w_on rfl ?_|refine w_opk rfl rfl ?_|refine w_cond_t rfl ?_|refine w_ret ?_|refine w_rt rfl ?_)
  exact fail _ E3
 | true=>
 have hld:0≤ld:=by
  unfold withinB at hw1
  simp only [Bool.and_eq_true,decide_eq_true_eq] at hw1
  exact hw1.1
 have how:ow<2:=by
  unfold withinB at hw2
  simp only [Bool.and_eq_true,decide_eq_true_eq] at hw2
  exact hw2.2
 obtain ⟨x0,x1,x2,x3,hx⟩:=shape_four hs
 have hyes:letB M F x0.toNat a=true→letB M F x1.toNat b=true→letB M F x2.toNat c=true→letB M F x3.toNat ex=true→MayS M F (Int.ofNat n,a,b,c,ld,ow,ex):=fun g0 g1 g2 g3=>⟨hs,hld,how,fun i hi=>by
  show letB M F (((shapeN n)[i]?).getD 0).toNat _=true
  rw [hx]
  match i,hi with
  | 0,_=>exact g0
  | 1,_=>exact g1
  | 2,_=>exact g2
  | 3,_=>exact g3⟩
 rw [hx]
 repeat' (first|refine w_seq ?_|refine w_reg ?_|refine w_e ?_|refine w_rf rfl (by assumption) (by rfl) (by rfl) (by rfl) ?_|refine w_on rfl ?_|refine w_opk rfl rfl ?_|refine w_cond_f rfl ?_|refine w_skip ?_)
 refine w_build [.int .i64 a,.int .i64 b,.int .i64 c,.int .i64 ex] rfl rfl ?_
 repeat' (first|refine w_e ?_|refine w_opk rfl rfl ?_)
 first|refine w_block (w_loop_step ?_)|refine w_loop_step ?_
 repeat' (first|refine w_seq ?_|refine w_reg ?_|refine w_e ?_|refine w_opk rfl rfl ?_|refine w_cond_t rfl ?_|refine w_skip ?_)
 refine w_block ?_
 repeat' (first|refine w_seq ?_|refine w_reg ?_|refine w_e ?_|refine w_opk rfl rfl ?_)
 refine w_callv rfl rfl ((let_ok hO hm3 hf3 hF hM).mono fun _ h5 ⟨e,eh⟩=>?_)
 subst e eh
 cases hq0:letB M F x0.toNat a with
 | false=>
  repeat' (first|refine w_seq ?_|refine w_reg ?_|refine w_e ?_|refine w_opk rfl rfl ?_|refine w_cond_t rfl ?_|refine w_ret ?_|refine w_rt rfl ?_)
  exact fail _ E3
 | true=>
 repeat' (first|refine w_reg ?_|refine w_e ?_|refine w_addN rfl rfl (by omega) ?_|refine w_opk rfl rfl ?_|refine w_cond_f rfl ?_|refine w_skip ?_)
 first|refine w_block (w_loop_step ?_)|refine w_loop_step ?_
 repeat' (first|refine w_seq ?_|refine w_reg ?_|refine w_e ?_|refine w_opk rfl rfl ?_|refine w_cond_t rfl ?_|refine w_skip ?_)
 refine w_block ?_
 repeat' (first|refine w_seq ?_|refine w_reg ?_|refine w_e ?_|refine w_opk rfl rfl ?_)
 refine w_callv rfl rfl ((let_ok hO hm3 hf3 hF hM).mono fun _ h5 ⟨e,eh⟩=>?_)
 subst e eh
 cases hq1:letB M F x1.toNat b with
 | false=>
  repeat' (first|refine w_seq ?_|refine w_reg ?_|refine w_e ?_|refine w_opk rfl rfl ?_|refine w_cond_t rfl ?_|refine w_ret ?_|refine w_rt rfl ?_)
  exact fail _ E3
 | true=>
 repeat' (first|refine w_reg ?_|refine w_e ?_|refine w_addN rfl rfl (by omega) ?_|refine w_opk rfl rfl ?_|refine w_cond_f rfl ?_|refine w_skip ?_)
 first|refine w_block (w_loop_step ?_)|refine w_loop_step ?_
 repeat' (first|refine w_seq ?_|refine w_reg ?_|refine w_e ?_|refine w_opk rfl rfl ?_|refine w_cond_t rfl ?_|refine w_skip ?_)
 refine w_block ?_
 repeat' (first|refine w_seq ?_|refine w_reg ?_|refine w_e ?_|refine w_opk rfl rfl ?_)
 refine w_callv rfl rfl ((let_ok hO hm3 hf3 hF hM).mono fun _ h5 ⟨e,eh⟩=>?_)
 subst e eh
 cases hq2:letB M F x2.toNat c with
 | false=>
  repeat' (first|refine w_seq ?_|refine w_reg ?_|refine w_e ?_|refine w_opk rfl rfl ?_|refine w_cond_t rfl ?_|refine w_ret ?_|refine w_rt rfl ?_)
  exact fail _ E3
 | true=>
 repeat' (first|refine w_reg ?_|refine w_e ?_|refine w_addN rfl rfl (by omega) ?_|refine w_opk rfl rfl ?_|refine w_cond_f rfl ?_|refine w_skip ?_)
 first|refine w_block (w_loop_step ?_)|refine w_loop_step ?_
 repeat' (first|refine w_seq ?_|refine w_reg ?_|refine w_e ?_|refine w_opk rfl rfl ?_|refine w_cond_t rfl ?_|refine w_skip ?_)
 refine w_block ?_
 repeat' (first|refine w_seq ?_|refine w_reg ?_|refine w_e ?_|refine w_opk rfl rfl ?_)
 refine w_callv rfl rfl ((let_ok hO hm3 hf3 hF hM).mono fun _ h5 ⟨e,eh⟩=>?_)
 subst e eh
 cases hq3:letB M F x3.toNat ex with
 | false=>
  repeat' (first|refine w_seq ?_|refine w_reg ?_|refine w_e ?_|refine w_opk rfl rfl ?_|refine w_cond_t rfl ?_|refine w_ret ?_|refine w_rt rfl ?_)
  exact fail _ E3
 | true=>
 repeat' (first|refine w_reg ?_|refine w_e ?_|refine w_addN rfl rfl (by omega) ?_|refine w_opk rfl rfl ?_|refine w_cond_f rfl ?_|refine w_skip ?_)
 refine w_loop_step ?_
 repeat' (first|refine w_seq ?_|refine w_reg ?_|refine w_e ?_|refine w_rf rfl (by assumption) (by rfl) (by rfl) (by rfl) ?_|refine w_opk rfl rfl ?_|refine w_cond_f rfl ?_|refine w_exit rfl ?_)
 refine w_block ?_
 have hy:=hyes hq0 hq1 hq2 hq3
 obtain ⟨vc,ve,vn,le,rfl,_⟩:=hf3
 repeat' (first|refine w_seq ?_|refine w_reg ?_|refine w_e ?_|refine w_rf rfl (by assumption) (by rfl) (by rfl) (by rfl) ?_|refine w_eqlN rfl rfl (fun hc=>?_) (fun hc=>?_)|refine w_lss rfl rfl (fun hc=>?_) (fun hc=>?_)|refine w_leq rfl rfl (fun hc=>?_) (fun hc=>?_)|refine w_gtr rfl rfl (fun hc=>?_) (fun hc=>?_)|refine w_opk rfl rfl ?_|refine w_cond_t rfl ?_|refine w_cond_f rfl ?_|refine w_skip ?_|refine w_ret ?_|refine w_rt rfl ?_)
 all_goals first
  | exact ⟨⟨_,rfl,fun _=>hy⟩,E3⟩
  | exact ⟨⟨true,by rfl,fun _=>hy⟩,E3⟩
end AmT
namespace AmT
open Go Am
set_option maxRecDepth 100000
set_option maxHeartbeats 8000000
variable {O:CallF}
theorem cfSpec_ok (hI:∀ a h,O 139 a h=none) (hC:∀ a h,O 79 a h=none) {h0:Heap} {v:V} {l:List (List V)} {g:Nat} {caps:List V} {P:Nat→Bool→Prop} (hv:RS h0 7 v l) (hl:∀ c∈l,c.length=7) (hb:l.length≤20000000)
  (hP:∀ (j:Nat) (hj:j<l.length) {h:Heap},Ext h0 h→WPc tab.get O g (.agg l[j] :: caps) h (fun r h'=>(∃ b,r=.bool b∧P j b)∧Ext h h')) :
  WPc tab.get O 79 [v,.fn g [] caps] h0 (fun r h'=>(∃ b,r=.bool b∧(b=false→∀ j,j<l.length→P j false)∧(b=true→∃ j,j<l.length∧P j true))∧Ext h0 h'):=by
 refine w_fn' (hC _ _) rfl rfl (by simp only [c79,initV,nth] <;> rfl) ?_
 repeat' (first|refine w_seq ?_|refine w_reg ?_|refine w_e ?_|refine w_opk rfl rfl ?_)
 refine w_callA [v,.fn g [] caps] rfl (WPc.mono (Q:=fun r h'=>(∃ k:Int,r=.int .i64 k∧((k = -1∧∀ j,j<l.length→P j false)∨(0≤k∧∃ j,j<l.length∧P j true)))∧Ext h0 h') ?_ fun v' h2 ⟨⟨k,e1,e3⟩,hE2⟩=>?_)
 ·refine w_fn' (hI _ _) rfl rfl (by simp only [c139,initV,nth] <;> rfl) ?_
  repeat' (first|refine w_seq ?_|refine w_reg ?_|refine w_e ?_|refine w_len rfl (by assumption) ?_|refine w_opk rfl rfl ?_)
  refine w_count (fun j vs h=>Ext h0 h∧(∀ i,i<j→P i false)∧∃ b5 b6 b7,vs=[v,.fn g [] caps,.int .i64 0,.int .i64 (.ofNat j),.int .i64 (.ofNat l.length),b5,b6,b7]) l.length ⟨ExtX.refl _ _,fun _ h=>absurd h (Nat.not_lt_zero _),_,_,_,rfl⟩ ?_
  rintro j vs h hj ⟨hE,hd,b5,b6,b7,rfl⟩
  have r':=hv.ext0 hE
  repeat' (first|refine w_seq ?_|refine w_reg ?_|refine w_e ?_|refine w_lssN rfl rfl (fun hc=>?_) (fun hc=>?_)|refine w_opk rfl rfl ?_|refine w_cond_t rfl ?_|refine w_cond_f rfl ?_|refine w_skip ?_|refine w_exit rfl ?_|refine w_ret ?_|refine w_rt rfl ?_)
  ·have hje:j<l.length:=by assumption
   have hlj:=hl _ (List.getElem_mem hje)
   refine w_block ?_
   repeat' (first|refine w_seq ?_|refine w_reg ?_|refine w_e ?_|refine w_opk rfl rfl ?_)
   refine w_iadrS rfl rfl r' hje ?_
   refine w_loadA rfl (slot_at r' hje) (by rw [hlj];rfl) ?_
   rw [show List.take 7 l[j]=l[j] from List.take_of_length_le (by omega)]
   refine w_callv rfl rfl ((hP j hje hE).mono fun v' h5 ⟨⟨b,e1,e3⟩,e2⟩=>?_)
   subst e1
   cases b
   ·repeat' (first|refine w_reg ?_|refine w_e ?_|refine w_addN rfl rfl (by omega) ?_|refine w_opk rfl rfl ?_|refine w_cond_f rfl ?_|refine w_skip ?_)
    exact ⟨hje,hE.trans e2,fun i hi=>by
     rcases Nat.lt_or_ge i j with q | q
     ·exact hd i q
     ·obtain rfl:i=j:=by omega
      exact e3,_,_,_,rfl⟩
   ·repeat' (first|refine w_seq ?_|refine w_reg ?_|refine w_e ?_|refine w_opk rfl rfl ?_|refine w_cond_t rfl ?_|refine w_ret ?_|refine w_rt rfl ?_)
    exact ⟨⟨_,rfl,.inr ⟨Int.natCast_nonneg j,j,hje,e3⟩⟩,hE.trans e2⟩
  ·exact ⟨⟨_,rfl,.inl ⟨rfl,fun i hi=>hd i (by omega)⟩⟩,hE⟩
 ·subst e1
  rcases e3 with ⟨rfl,e3⟩ | ⟨hk,e3⟩
  ·repeat' (first|refine w_e ?_|refine w_opk rfl rfl ?_|refine w_ret ?_|refine w_rt rfl ?_)
   exact ⟨⟨false,rfl,fun _=>e3,fun q=>absurd q (by decide)⟩,hE2⟩
  ·obtain ⟨n,rfl⟩:∃ n:Nat,k=Int.ofNat n:=⟨k.toNat,(Int.toNat_of_nonneg hk).symm⟩
   repeat' (first|refine w_e ?_|refine w_opk rfl rfl ?_|refine w_ret ?_|refine w_rt rfl ?_)
   exact ⟨⟨true,by cases n <;> rfl,fun q=>absurd q (by decide),fun _=>e3⟩,hE2⟩
theorem cfOn_ok (hI:∀ a h,O 57 a h=none) (hC:∀ a h,O 102 a h=none) {h0:Heap} {v:V} {l:List (List V)} {g:Nat} {caps:List V} {P:Nat→Bool→Prop} (hv:RS h0 3 v l) (hl:∀ c∈l,c.length=3) (hb:l.length≤20000000)
  (hP:∀ (j:Nat) (hj:j<l.length) {h:Heap},Ext h0 h→WPc tab.get O g (.agg l[j] :: caps) h (fun r h'=>(∃ b,r=.bool b∧P j b)∧Ext h h')) :
  WPc tab.get O 102 [v,.fn g [] caps] h0 (fun r h'=>(∃ b,r=.bool b∧(b=false→∀ j,j<l.length→P j false)∧(b=true→∃ j,j<l.length∧P j true))∧Ext h0 h'):=by
 refine w_fn' (hC _ _) rfl rfl (by simp only [c102,initV,nth] <;> rfl) ?_
 repeat' (first|refine w_seq ?_|refine w_reg ?_|refine w_e ?_|refine w_opk rfl rfl ?_)
 refine w_callA [v,.fn g [] caps] rfl (WPc.mono (Q:=fun r h'=>(∃ k:Int,r=.int .i64 k∧((k = -1∧∀ j,j<l.length→P j false)∨(0≤k∧∃ j,j<l.length∧P j true)))∧Ext h0 h') ?_ fun v' h2 ⟨⟨k,e1,e3⟩,hE2⟩=>?_)
 ·refine w_fn' (hI _ _) rfl rfl (by simp only [c57,initV,nth] <;> rfl) ?_
  repeat' (first|refine w_seq ?_|refine w_reg ?_|refine w_e ?_|refine w_len rfl (by assumption) ?_|refine w_opk rfl rfl ?_)
  refine w_count (fun j vs h=>Ext h0 h∧(∀ i,i<j→P i false)∧∃ b5 b6 b7,vs=[v,.fn g [] caps,.int .i64 0,.int .i64 (.ofNat j),.int .i64 (.ofNat l.length),b5,b6,b7]) l.length ⟨ExtX.refl _ _,fun _ h=>absurd h (Nat.not_lt_zero _),_,_,_,rfl⟩ ?_
  rintro j vs h hj ⟨hE,hd,b5,b6,b7,rfl⟩
  have r':=hv.ext0 hE
  repeat' (first|refine w_seq ?_|refine w_reg ?_|refine w_e ?_|refine w_lssN rfl rfl (fun hc=>?_) (fun hc=>?_)|refine w_opk rfl rfl ?_|refine w_cond_t rfl ?_|refine w_cond_f rfl ?_|refine w_skip ?_|refine w_exit rfl ?_|refine w_ret ?_|refine w_rt rfl ?_)
  ·have hje:j<l.length:=by assumption
   have hlj:=hl _ (List.getElem_mem hje)
   refine w_block ?_
   repeat' (first|refine w_seq ?_|refine w_reg ?_|refine w_e ?_|refine w_opk rfl rfl ?_)
   refine w_iadrS rfl rfl r' hje ?_
   refine w_loadA rfl (slot_at r' hje) (by rw [hlj];rfl) ?_
   rw [show List.take 3 l[j]=l[j] from List.take_of_length_le (by omega)]
   refine w_callv rfl rfl ((hP j hje hE).mono fun v' h5 ⟨⟨b,e1,e3⟩,e2⟩=>?_)
   subst e1
   cases b
   ·repeat' (first|refine w_reg ?_|refine w_e ?_|refine w_addN rfl rfl (by omega) ?_|refine w_opk rfl rfl ?_|refine w_cond_f rfl ?_|refine w_skip ?_)
    exact ⟨hje,hE.trans e2,fun i hi=>by
     rcases Nat.lt_or_ge i j with q | q
     ·exact hd i q
     ·obtain rfl:i=j:=by omega
      exact e3,_,_,_,rfl⟩
   ·repeat' (first|refine w_seq ?_|refine w_reg ?_|refine w_e ?_|refine w_opk rfl rfl ?_|refine w_cond_t rfl ?_|refine w_ret ?_|refine w_rt rfl ?_)
    exact ⟨⟨_,rfl,.inr ⟨Int.natCast_nonneg j,j,hje,e3⟩⟩,hE.trans e2⟩
  ·exact ⟨⟨_,rfl,.inl ⟨rfl,fun i hi=>hd i (by omega)⟩⟩,hE⟩
 ·subst e1
  rcases e3 with ⟨rfl,e3⟩ | ⟨hk,e3⟩
  ·repeat' (first|refine w_e ?_|refine w_opk rfl rfl ?_|refine w_ret ?_|refine w_rt rfl ?_)
   exact ⟨⟨false,rfl,fun _=>e3,fun q=>absurd q (by decide)⟩,hE2⟩
  ·obtain ⟨n,rfl⟩:∃ n:Nat,k=Int.ofNat n:=⟨k.toNat,(Int.toNat_of_nonneg hk).symm⟩
   repeat' (first|refine w_e ?_|refine w_opk rfl rfl ?_|refine w_ret ?_|refine w_rt rfl ?_)
   exact ⟨⟨true,by cases n <;> rfl,fun q=>absurd q (by decide),fun _=>e3⟩,hE2⟩
theorem cfNeed_ok (hI:∀ a h,O 145 a h=none) (hC:∀ a h,O 85 a h=none) {h0:Heap} {v:V} {l:List (List V)} {g:Nat} {caps:List V} {P:Nat→Bool→Prop} (hv:RS h0 2 v l) (hl:∀ c∈l,c.length=2) (hb:l.length≤20000000)
  (hP:∀ (j:Nat) (hj:j<l.length) {h:Heap},Ext h0 h→WPc tab.get O g (.agg l[j] :: caps) h (fun r h'=>(∃ b,r=.bool b∧P j b)∧Ext h h')) :
  WPc tab.get O 85 [v,.fn g [] caps] h0 (fun r h'=>(∃ b,r=.bool b∧(b=false→∀ j,j<l.length→P j false)∧(b=true→∃ j,j<l.length∧P j true))∧Ext h0 h'):=by
 refine w_fn' (hC _ _) rfl rfl (by simp only [c85,initV,nth] <;> rfl) ?_
 repeat' (first|refine w_seq ?_|refine w_reg ?_|refine w_e ?_|refine w_opk rfl rfl ?_)
 refine w_callA [v,.fn g [] caps] rfl (WPc.mono (Q:=fun r h'=>(∃ k:Int,r=.int .i64 k∧((k = -1∧∀ j,j<l.length→P j false)∨(0≤k∧∃ j,j<l.length∧P j true)))∧Ext h0 h') ?_ fun v' h2 ⟨⟨k,e1,e3⟩,hE2⟩=>?_)
 ·refine w_fn' (hI _ _) rfl rfl (by simp only [c145,initV,nth] <;> rfl) ?_
  repeat' (first|refine w_seq ?_|refine w_reg ?_|refine w_e ?_|refine w_len rfl (by assumption) ?_|refine w_opk rfl rfl ?_)
  refine w_count (fun j vs h=>Ext h0 h∧(∀ i,i<j→P i false)∧∃ b5 b6 b7,vs=[v,.fn g [] caps,.int .i64 0,.int .i64 (.ofNat j),.int .i64 (.ofNat l.length),b5,b6,b7]) l.length ⟨ExtX.refl _ _,fun _ h=>absurd h (Nat.not_lt_zero _),_,_,_,rfl⟩ ?_
  rintro j vs h hj ⟨hE,hd,b5,b6,b7,rfl⟩
  have r':=hv.ext0 hE
  repeat' (first|refine w_seq ?_|refine w_reg ?_|refine w_e ?_|refine w_lssN rfl rfl (fun hc=>?_) (fun hc=>?_)|refine w_opk rfl rfl ?_|refine w_cond_t rfl ?_|refine w_cond_f rfl ?_|refine w_skip ?_|refine w_exit rfl ?_|refine w_ret ?_|refine w_rt rfl ?_)
  ·have hje:j<l.length:=by assumption
   have hlj:=hl _ (List.getElem_mem hje)
   refine w_block ?_
   repeat' (first|refine w_seq ?_|refine w_reg ?_|refine w_e ?_|refine w_opk rfl rfl ?_)
   refine w_iadrS rfl rfl r' hje ?_
   refine w_loadA rfl (slot_at r' hje) (by rw [hlj];rfl) ?_
   rw [show List.take 2 l[j]=l[j] from List.take_of_length_le (by omega)]
   refine w_callv rfl rfl ((hP j hje hE).mono fun v' h5 ⟨⟨b,e1,e3⟩,e2⟩=>?_)
   subst e1
   cases b
   ·repeat' (first|refine w_reg ?_|refine w_e ?_|refine w_addN rfl rfl (by omega) ?_|refine w_opk rfl rfl ?_|refine w_cond_f rfl ?_|refine w_skip ?_)
    exact ⟨hje,hE.trans e2,fun i hi=>by
     rcases Nat.lt_or_ge i j with q | q
     ·exact hd i q
     ·obtain rfl:i=j:=by omega
      exact e3,_,_,_,rfl⟩
   ·repeat' (first|refine w_seq ?_|refine w_reg ?_|refine w_e ?_|refine w_opk rfl rfl ?_|refine w_cond_t rfl ?_|refine w_ret ?_|refine w_rt rfl ?_)
    exact ⟨⟨_,rfl,.inr ⟨Int.natCast_nonneg j,j,hje,e3⟩⟩,hE.trans e2⟩
  ·exact ⟨⟨_,rfl,.inl ⟨rfl,fun i hi=>hd i (by omega)⟩⟩,hE⟩
 ·subst e1
  rcases e3 with ⟨rfl,e3⟩ | ⟨hk,e3⟩
  ·repeat' (first|refine w_e ?_|refine w_opk rfl rfl ?_|refine w_ret ?_|refine w_rt rfl ?_)
   exact ⟨⟨false,rfl,fun _=>e3,fun q=>absurd q (by decide)⟩,hE2⟩
  ·obtain ⟨n,rfl⟩:∃ n:Nat,k=Int.ofNat n:=⟨k.toNat,(Int.toNat_of_nonneg hk).symm⟩
   repeat' (first|refine w_e ?_|refine w_opk rfl rfl ?_|refine w_ret ?_|refine w_rt rfl ?_)
   exact ⟨⟨true,by cases n <;> rfl,fun q=>absurd q (by decide),fun _=>e3⟩,hE2⟩
end AmT
namespace AmT
open Go Am
set_option maxRecDepth 100000
set_option maxHeartbeats 8000000
variable {O:CallF}
theorem body1_ok (hO:OffIc O) {h0:Heap} {o:OnA} {n:Int} {iN:Nat} (hN:Own h0 iN [.int .i64 n]):WPc tab.get O 138 [.agg (onC o),.ptr iN 0 0 1] h0 (fun v h'=>(∃ b,v=.bool b∧(b=true↔o.fn=n))∧Ext h0 h'):=by
 refine w_fn' (hO.b1 _ _) rfl rfl (by simp only [c138,initV,nth] <;> rfl) ?_
 obtain ⟨tg,op,fn⟩:=o
 refine w_seq (w_reg (w_box rfl rfl rfl fun iO h1 hOo hiO hE1=>?_))
 replace hOo:Own h1 iO [.str tg,.int .i64 op,.int .i64 fn]:=hOo
 have hN1:=hN.ext0 hE1
 repeat' (first|refine w_seq ?_|refine w_reg ?_|refine w_e ?_|refine w_rf rfl (by assumption) (by rfl) (by rfl) (by rfl) ?_|refine w_fl rfl (by assumption) (by rfl) (by rfl) (by rfl) ?_|refine w_eql rfl rfl (fun hc=>?_) (fun hc=>?_)|refine w_opk rfl rfl ?_|refine w_ret ?_|refine w_rt rfl ?_)
 ·exact ⟨⟨_,rfl,fun _=>by assumption,fun _=>rfl⟩,hE1⟩
 ·exact ⟨⟨_,rfl,fun q=>absurd q (by decide),fun q=>absurd q (by assumption)⟩,hE1⟩
theorem body_ok (hO:OffIc O) {Z:Nat→Prop} {h0:Heap} {mc:List V} {M:ModA} {n:Int} (hm:ModR Z h0 mc M) (ht:TyM M):WPc tab.get O 78 [.agg mc,.int .i64 n] h0 (fun v h'=>(∃ b,v=.bool b∧(b=true→n∈fnsOf M.roles))∧Ext h0 h'):=by
 have hs:=hm.shape
 refine w_fn' (hO.bo _ _) rfl rfl (by simp only [c78,initV,nth] <;> rfl) ?_
 refine w_seq (w_reg (w_box rfl hs.1 hs.2 fun iA h1 hA hiA hE1=>?_))
 refine w_box rfl rfl rfl fun iN h2 hN hiN hE2=>?_
 have E2:=hE1.trans hE2
 obtain ⟨cs,ts,fns,rs,lc,lfn,lr,rfl,r1,v1,r2,r3,a3,r4,a4⟩:=hm
 replace hA:Own h2 iA [cs,ts,fns,rs]:=hA.ext0 hE2
 replace hN:Own h2 iN [.int .i64 n]:=hN
 have rr:=r4.1.ext0 E2
 have hlr:=a4.1
 have hrl:=ht.rl
 repeat' (first|refine w_seq ?_|refine w_reg ?_|refine w_e ?_|refine w_rf rfl (by assumption) (by rfl) (by rfl) (by rfl) ?_|refine w_len rfl (by assumption) ?_|refine w_opk rfl rfl ?_)
 refine w_count (fun j vs h=>∃ b6 b8 b10,Ext h2 h∧vs=[.agg [cs,ts,fns,rs],.int .i64 n,.bool false,.ptr iA 0 0 4,.int .i64 (.ofNat j),.int .i64 (.ofNat lr.length),b6,rs,b8,.ptr iN 0 0 1,b10]) lr.length ⟨_,_,_,ExtX.refl _ _,rfl⟩ ?_
 rintro j vs h hj ⟨b6,b8,b10,hE,rfl⟩
 have rr':=rr.ext0 hE
 have hN':=hN.ext0 hE
 have EE:=E2.trans hE
 repeat' (first|refine w_seq ?_|refine w_reg ?_|refine w_e ?_|refine w_lssN rfl rfl (fun hc=>?_) (fun hc=>?_)|refine w_opk rfl rfl ?_|refine w_cond_t rfl ?_|refine w_cond_f rfl ?_|refine w_skip ?_|refine w_exit rfl ?_|refine w_ret ?_|refine w_rt rfl ?_)
 ·have hj1:j<lr.length:=by assumption
  have hj2:j<M.roles.length:=by omega
  obtain ⟨ov,epr,rov⟩:=a4.get hj1 hj2
  have htr:=ht.rs _ (List.getElem_mem hj2)
  have hmem:∀ o∈M.roles[j].on,o.fn∈fnsOf M.roles:=fun o ho=>mem_fnsOf.2 ⟨_,List.getElem_mem hj2,o,ho,rfl⟩
  have hS:=slot_at rr' hj1
  rw [epr] at hS
  have hov1:=rov.1.one
  generalize M.roles[j]=R at *
  have hmap:(R.on.map onC).length=R.on.length:=List.length_map ..
  refine w_block ?_
  repeat' (first|refine w_seq ?_|refine w_reg ?_)
  refine w_iadrS rfl rfl rr' hj1 ?_
  refine w_loadA rfl hS rfl ?_
  refine w_alloc fun iP h3 hP hiP hE3=>?_
  skip
  refine w_store rfl rfl hP rfl (by show allOne [.str R.name,.int .i64 R.params,ov]=true;simp only [allOne,hov1];rfl) (by decide) (by simp) fun h4 hP4 hE4 hn4=>?_
  replace hP4:Own h4 iP [.str R.name,.int .i64 R.params,ov]:=hP4
  have E4:Ext h h4:=hE3.step hE4 fun q hq=>by simp at hq;exact .inr (by omega)
  have hN4:=hN'.ext0 E4
  have rov4:=rov.1.ext0 (EE.trans E4)
  repeat' (first|refine w_seq ?_|refine w_reg ?_|refine w_e ?_|refine w_rf rfl (by assumption) (by rfl) (by rfl) (by rfl) ?_|refine w_opk rfl rfl ?_)
  refine w_callA [ov,.fn 138 [] [.ptr iN 0 0 1]] rfl ((cfOn_ok hO.i2 hO.j2 (P:=fun j b=>b=true→n∈fnsOf M.roles) rov4 (fun c hc=>by obtain ⟨o,_,rfl⟩:=List.mem_map.1 hc;rfl) (by rw [hmap];have:=htr.2.1;omega) fun j hj {h'} hE'=>by
   rw [List.getElem_map]
   have hj':j<R.on.length:=by omega
   exact (body1_ok hO (hN4.ext0 hE')).mono fun r h'' ⟨⟨b,e,hb⟩,hE''⟩=>⟨⟨b,e,fun q=>by rw [← hb.1 q];exact hmem _ (List.getElem_mem hj')⟩,hE''⟩).mono fun _ h5 ⟨⟨b,e,_,hb⟩,hE5⟩=>?_)
  subst e
  cases b with
  | true=>
   repeat' (first|refine w_seq ?_|refine w_reg ?_|refine w_e ?_|refine w_opk rfl rfl ?_|refine w_cond_t rfl ?_|refine w_ret ?_|refine w_rt rfl ?_)
   obtain ⟨j',_,hj'⟩:=hb rfl
   exact ⟨⟨_,rfl,fun _=>hj' rfl⟩,(EE.trans E4).trans hE5⟩
  | false=>
   repeat' (first|refine w_reg ?_|refine w_e ?_|refine w_addN rfl rfl (by omega) ?_|refine w_opk rfl rfl ?_|refine w_cond_f rfl ?_|refine w_skip ?_)
   exact ⟨hj1,_,_,_,hE.trans (E4.trans hE5),rfl⟩
 ·exact ⟨⟨_,rfl,fun q=>absurd q (by decide)⟩,EE⟩
theorem back1_ok (hO:OffIc O) {h0:Heap} {n:Int} {a b:Int} {x y z:V} {iF:Nat} (hF:Own h0 iF [.int .i64 a,.int .i64 b,x,y,z]):WPc tab.get O 143 [.int .i64 n,.ptr iF 0 0 5] h0 (fun v h'=>(∃ r,v=.bool r)∧Ext h0 h'):=by
 refine w_fn' (hO.k1 _ _) rfl rfl (by simp only [c143,initV,nth] <;> rfl) ?_
 repeat' (first|refine w_seq ?_|refine w_reg ?_|refine w_e ?_|refine w_rf rfl (by assumption) (by rfl) (by rfl) (by rfl) ?_|refine w_opk rfl rfl ?_)
 refine w_callA [.int .i64 n,.int .i64 b] rfl ((within_ok hO).mono fun _ h1 ⟨e,eh⟩=>?_)
 subst e eh
 repeat' (first|refine w_e ?_|refine w_opk rfl rfl ?_|refine w_ret ?_|refine w_rt rfl ?_)
 exact ⟨⟨_,rfl⟩,ExtX.refl _ _⟩
theorem cfInt_ok (hI:∀ a h,O 200 a h=none) (hC:∀ a h,O 144 a h=none) {h0:Heap} {v:V} {l:List (List V)} {g:Nat} {caps:List V} (hv:RS h0 1 v l) (hb:l.length≤20000000)
  (hP:∀ (j:Nat) (hj:j<l.length),∃ x,l[j]=[x]∧∀ {h:Heap},Ext h0 h→WPc tab.get O g (x :: caps) h (fun r h'=>(∃ b,r=.bool b)∧Ext h h')) :
  WPc tab.get O 144 [v,.fn g [] caps] h0 (fun r h'=>(∃ b,r=.bool b)∧Ext h0 h'):=by
 refine w_fn' (hC _ _) rfl rfl (by simp only [c144,initV,nth] <;> rfl) ?_
 repeat' (first|refine w_seq ?_|refine w_reg ?_|refine w_e ?_|refine w_opk rfl rfl ?_)
 refine w_callA [v,.fn g [] caps] rfl (WPc.mono (Q:=fun r h'=>(∃ k:Int,r=.int .i64 k)∧Ext h0 h') ?_ fun v' h2 ⟨⟨k,e1⟩,hE2⟩=>?_)
 ·refine w_fn' (hI _ _) rfl rfl (by simp only [c200,initV,nth] <;> rfl) ?_
  repeat' (first|refine w_seq ?_|refine w_reg ?_|refine w_e ?_|refine w_len rfl (by assumption) ?_|refine w_opk rfl rfl ?_)
  refine w_count (fun j vs h=>Ext h0 h∧∃ b5 b6 b7,vs=[v,.fn g [] caps,.int .i64 0,.int .i64 (.ofNat j),.int .i64 (.ofNat l.length),b5,b6,b7]) l.length ⟨ExtX.refl _ _,_,_,_,rfl⟩ ?_
  rintro j vs h hj ⟨hE,b5,b6,b7,rfl⟩
  have r':=hv.ext0 hE
  repeat' (first|refine w_seq ?_|refine w_reg ?_|refine w_e ?_|refine w_lssN rfl rfl (fun hc=>?_) (fun hc=>?_)|refine w_opk rfl rfl ?_|refine w_cond_t rfl ?_|refine w_cond_f rfl ?_|refine w_skip ?_|refine w_exit rfl ?_|refine w_ret ?_|refine w_rt rfl ?_)
  ·have hje:j<l.length:=by assumption
   obtain ⟨x,ex,hx⟩:=hP j hje
   have hS:=slot_at r' hje
   rw [ex] at hS
   refine w_block ?_
   repeat' (first|refine w_seq ?_|refine w_reg ?_|refine w_e ?_|refine w_opk rfl rfl ?_)
   refine w_iadrS rfl rfl r' hje ?_
   refine w_load1 rfl hS rfl ?_
   refine w_callv rfl rfl ((hx hE).mono fun v' h5 ⟨⟨b,e1⟩,e2⟩=>?_)
   subst e1
   cases b
   ·repeat' (first|refine w_reg ?_|refine w_e ?_|refine w_addN rfl rfl (by omega) ?_|refine w_opk rfl rfl ?_|refine w_cond_f rfl ?_|refine w_skip ?_)
    exact ⟨hje,hE.trans e2,_,_,_,rfl⟩
   ·repeat' (first|refine w_seq ?_|refine w_reg ?_|refine w_e ?_|refine w_opk rfl rfl ?_|refine w_cond_t rfl ?_|refine w_ret ?_|refine w_rt rfl ?_)
    exact ⟨⟨_,rfl⟩,hE.trans e2⟩
  ·exact ⟨⟨_,rfl⟩,hE⟩
 ·subst e1
  repeat' (first|refine w_e ?_|refine w_geq rfl rfl (fun hc=>?_) (fun hc=>?_)|refine w_opk rfl rfl ?_|refine w_ret ?_|refine w_rt rfl ?_)
  all_goals exact ⟨⟨_,rfl⟩,hE2⟩
theorem cfExit_ok (hI:∀ a h,O 142 a h=none) (hC:∀ a h,O 82 a h=none) {h0:Heap} {v:V} {l:List (List V)} {g:Nat} {caps:List V} (hv:RS h0 1 v l) (hb:l.length≤20000000)
  (hP:∀ (j:Nat) (hj:j<l.length),∃ x,l[j]=[x]∧∀ {h:Heap},Ext h0 h→WPc tab.get O g (x :: caps) h (fun r h'=>(∃ b,r=.bool b)∧Ext h h')) :
  WPc tab.get O 82 [v,.fn g [] caps] h0 (fun r h'=>(∃ b,r=.bool b)∧Ext h0 h'):=by
 refine w_fn' (hC _ _) rfl rfl (by simp only [c82,initV,nth] <;> rfl) ?_
 repeat' (first|refine w_seq ?_|refine w_reg ?_|refine w_e ?_|refine w_opk rfl rfl ?_)
 refine w_callA [v,.fn g [] caps] rfl (WPc.mono (Q:=fun r h'=>(∃ k:Int,r=.int .i64 k)∧Ext h0 h') ?_ fun v' h2 ⟨⟨k,e1⟩,hE2⟩=>?_)
 ·refine w_fn' (hI _ _) rfl rfl (by simp only [c142,initV,nth] <;> rfl) ?_
  repeat' (first|refine w_seq ?_|refine w_reg ?_|refine w_e ?_|refine w_len rfl (by assumption) ?_|refine w_opk rfl rfl ?_)
  refine w_count (fun j vs h=>Ext h0 h∧∃ b5 b6 b7,vs=[v,.fn g [] caps,.int .i64 0,.int .i64 (.ofNat j),.int .i64 (.ofNat l.length),b5,b6,b7]) l.length ⟨ExtX.refl _ _,_,_,_,rfl⟩ ?_
  rintro j vs h hj ⟨hE,b5,b6,b7,rfl⟩
  have r':=hv.ext0 hE
  repeat' (first|refine w_seq ?_|refine w_reg ?_|refine w_e ?_|refine w_lssN rfl rfl (fun hc=>?_) (fun hc=>?_)|refine w_opk rfl rfl ?_|refine w_cond_t rfl ?_|refine w_cond_f rfl ?_|refine w_skip ?_|refine w_exit rfl ?_|refine w_ret ?_|refine w_rt rfl ?_)
  ·have hje:j<l.length:=by assumption
   obtain ⟨x,ex,hx⟩:=hP j hje
   have hS:=slot_at r' hje
   rw [ex] at hS
   refine w_block ?_
   repeat' (first|refine w_seq ?_|refine w_reg ?_|refine w_e ?_|refine w_opk rfl rfl ?_)
   refine w_iadrS rfl rfl r' hje ?_
   refine w_load1 rfl hS rfl ?_
   refine w_callv rfl rfl ((hx hE).mono fun v' h5 ⟨⟨b,e1⟩,e2⟩=>?_)
   subst e1
   cases b
   ·repeat' (first|refine w_reg ?_|refine w_e ?_|refine w_addN rfl rfl (by omega) ?_|refine w_opk rfl rfl ?_|refine w_cond_f rfl ?_|refine w_skip ?_)
    exact ⟨hje,hE.trans e2,_,_,_,rfl⟩
   ·repeat' (first|refine w_seq ?_|refine w_reg ?_|refine w_e ?_|refine w_opk rfl rfl ?_|refine w_cond_t rfl ?_|refine w_ret ?_|refine w_rt rfl ?_)
    exact ⟨⟨_,rfl⟩,hE.trans e2⟩
  ·exact ⟨⟨_,rfl⟩,hE⟩
 ·subst e1
  repeat' (first|refine w_e ?_|refine w_geq rfl rfl (fun hc=>?_) (fun hc=>?_)|refine w_opk rfl rfl ?_|refine w_ret ?_|refine w_rt rfl ?_)
  all_goals exact ⟨⟨_,rfl⟩,hE2⟩
end AmT
namespace AmT
open Go Am
set_option maxRecDepth 100000
set_option maxHeartbeats 8000000
variable {O:CallF}
theorem within_iff {n b:Int} : withinB n b=true↔0≤n∧n<b:=by
 unfold withinB
 simp only [Bool.and_eq_true,decide_eq_true_eq]
theorem back_ok (hO:OffIc O) {Z:Nat→Prop} {h0:Heap} {mc fc:List V} {M:ModA} {F:FastA} {v:V} {l:List BackA} (hm:ModR Z h0 mc M) (ht:TyM M) (hf:FastR Z h0 fc F) (hl:ExitR Z h0 [v] l) (hb:l.length≤10485760∧∀ b∈l,b.2.2.1.length≤10485760∧b.2.2.2.length≤10485760) :
  WPc tab.get O 84 [.agg mc,.agg fc,v] h0 (fun r h'=>(∃ b,r=.bool b)∧Ext h0 h'):=by
 have hms:=hm.shape
 have hmm:=hm
 obtain ⟨cs,ts,fns,rs,lc,lfn,lr,rfl,r1,v1,r2,r3,a3,r4,a4⟩:=hm
 obtain ⟨vc,ve,vn,le,rfl,s1,s2,s3,s4⟩:=hf
 obtain ⟨v',lb,ev',rb,ab⟩:=hl
 simp only [List.cons.injEq,and_true] at ev'
 subst ev'
 refine w_fn' (hO.bk _ _) rfl rfl (by simp only [c84,initV,nth] <;> rfl) ?_
 refine w_seq (w_reg (w_box rfl hms.1 hms.2 fun iM g1 hM hiM gE1=>?_))
 refine w_box rfl rfl (by simp only [V.cells,allOne,s1.1.one,s2.1.one,s4.1.one];rfl) fun iF g2 hF hiF gE2=>?_
 have E2:=gE1.trans gE2
 replace hM:Own g2 iM [cs,ts,fns,rs]:=hM.ext0 gE2
 replace hF:Own g2 iF [.int .i64 F.1,.int .i64 F.2.1,vc,ve,vn]:=hF
 have q3:=r3.1.ext0 E2
 have qb:=rb.1.ext0 E2
 have hlf:=a3.1
 have hlb:=ab.1
 have b3:=ht.fl
 have fail:∀ (b:Bool) h',Ext h0 h'→(∃ b',packV [.bool b]=.bool b')∧Ext h0 h':=fun b h' e=>⟨⟨b,rfl⟩,e⟩
 repeat' (first|refine w_seq ?_|refine w_reg ?_|refine w_e ?_|refine w_len rfl (by assumption) ?_|refine w_opk rfl rfl ?_)
 refine w_count (fun j vs h=>∃ b7 b9 b11 b12 b13 b15,Ext g2 h∧vs=[.agg [cs,ts,fns,rs],.agg [.int .i64 F.1,.int .i64 F.2.1,vc,ve,vn],v,.bool false,.ptr iF 0 0 5,.int .i64 (.ofNat j),.int .i64 (.ofNat lb.length),b7,v,b9,.ptr iM 0 0 4,b11,b12,b13,.fn 143 [] [.ptr iF 0 0 5],b15]) lb.length ⟨_,_,_,_,_,_,ExtX.refl _ _,rfl⟩ ?_
 rintro j vs h hj ⟨b7,b9,b11,b12,b13,b15,hE,rfl⟩
 have qb':=qb.ext0 hE
 have hM':=hM.ext0 hE
 have hF':=hF.ext0 hE
 have EE:=E2.trans hE
 repeat' (first|refine w_seq ?_|refine w_reg ?_|refine w_e ?_|refine w_off rfl ?_|refine w_on rfl ?_|refine w_len rfl (by assumption) ?_|refine w_lssN rfl rfl (fun hc=>?_) (fun hc=>?_)|refine w_leqN rfl rfl (fun hc=>?_) (fun hc=>?_)|refine w_geqN rfl rfl (fun hc=>?_) (fun hc=>?_)|refine w_opk rfl rfl ?_|refine w_cond_t rfl ?_|refine w_cond_f rfl ?_|refine w_skip ?_|refine w_exit rfl ?_|refine w_ret ?_|refine w_rt rfl ?_)
 ·have hj1:j<lb.length:=by assumption
  have hj2:j<l.length:=by omega
  obtain ⟨vv,vst,eb,rv,rst⟩:=ab.get hj1 hj2
  have hbl:=hb.2 _ (List.getElem_mem hj2)
  have hS:=slot_at qb' hj1
  rw [eb] at hS
  have ov:=rv.1.one
  have ost:=rst.1.one
  generalize l[j]=B at *
  obtain ⟨bf,ba,bv,bst⟩:=B
  refine w_block ?_
  repeat' (first|refine w_seq ?_|refine w_reg ?_|refine w_opk rfl rfl ?_)
  refine w_iadrS rfl rfl qb' hj1 ?_
  refine w_loadA rfl hS rfl ?_
  refine w_alloc fun iB h3 hB hiB hE3=>?_
  repeat' (first|refine w_opk rfl rfl ?_)
  refine w_store rfl rfl hB rfl (by show allOne [.int .i64 bf,.int .i64 ba,vv,vst]=true;simp only [allOne,ov,ost];rfl) (by decide) (by simp) fun h4 hB4 hE4 hn4=>?_
  replace hB4:Own h4 iB [.int .i64 bf,.int .i64 ba,vv,vst]:=hB4
  have E4:Ext h h4:=hE3.step hE4 fun q hq=>by simp at hq;exact .inr (by omega)
  have hM4:=hM'.ext0 E4
  have hF4:=hF'.ext0 E4
  have q34:=(q3.ext0 hE).ext0 E4
  replace EE:=EE.trans E4
  clear hB hE3 hE4 hM' hF' hS
  repeat' (first|refine w_seq ?_|refine w_reg ?_|refine w_e ?_|refine w_rf rfl (by assumption) (by rfl) (by rfl) (by rfl) ?_|refine w_len rfl (by assumption) ?_)
  refine w_callA [.int .i64 bf,.int .i64 (.ofNat lfn.length)] rfl ((within_ok hO).mono fun _ h5 ⟨e,eh⟩=>?_)
  subst e eh
  refine WPo.mono (Q:=fun ls h'=>(∃ b,nth ls 0=some (.bool b)∧(b=false→withinB bf (.ofNat lfn.length)=true))∧Ext h5 h') ?_ ?_
  ·cases hw:withinB bf (Int.ofNat lfn.length) with
   | false=>
    repeat' (first|refine w_off rfl ?_|refine w_opk rfl rfl ?_)
    exact w_nil ⟨⟨true,rfl,fun q=>absurd q (by decide)⟩,ExtX.refl _ _⟩
   | true=>
    repeat' (first|refine w_off rfl ?_|refine w_rfg rfl rfl (by assumption) (by rfl) (by rfl) (by rfl) (by rfl) ?_|refine w_on rfl ?_|refine w_gtrN rfl rfl (fun hc=>?_) (fun hc=>?_)|refine w_eqlN rfl rfl (fun hc=>?_) (fun hc=>?_)|refine w_neq rfl rfl (fun hc=>?_) (fun hc=>?_)|refine w_opk rfl rfl ?_)
    all_goals first
     | exact w_nil ⟨⟨_,rfl,fun _=>rfl⟩,ExtX.refl _ _⟩
     | (refine w_loadA rfl (hM4.at rfl) rfl ?_
        repeat' (first|refine w_rfg rfl rfl (by assumption) (by rfl) (by rfl) (by rfl) (by rfl) ?_|refine w_on rfl ?_)
        refine w_callA [.agg [cs,ts,fns,rs],.int .i64 bf] rfl ((body_ok hO (hmm.ext EE (Z':=Z) (by simp) fun _ q _=>q) ht).mono fun _ h6 ⟨⟨b,e,_⟩,hE6⟩=>?_)
        subst e
        repeat' (first|refine w_on rfl ?_|refine w_opk rfl rfl ?_)
        exact w_nil ⟨⟨_,rfl,fun _=>rfl⟩,hE6⟩)
  rintro ls6 h6 ⟨⟨b,hn6,hw⟩,hE6⟩
  refine w_outs hn6 rfl ?_
  cases b with
  | true=>
   repeat' (first|refine w_seq ?_|refine w_reg ?_|refine w_e ?_|refine w_opk rfl rfl ?_|refine w_cond_t rfl ?_|refine w_ret ?_|refine w_rt rfl ?_)
   exact fail _ _ (EE.trans hE6)
  | false=>
  obtain ⟨w1,w2⟩:=within_iff.1 (hw rfl)
  obtain ⟨k,rfl⟩:∃ k:Nat,bf=Int.ofNat k:=⟨bf.toNat,(Int.toNat_of_nonneg w1).symm⟩
  have hk1:k<lfn.length:=by have:(k:Int)<lfn.length:=w2;omega
  have hk2:k<M.fns.length:=by omega
  obtain ⟨cv,epf,rcv⟩:=a3.get hk1 hk2
  have htf:=ht.fs _ (List.getElem_mem hk2)
  have ocv:=rcv.1.one
  have hB6:=hB4.ext0 hE6
  have hM6:=hM4.ext0 hE6
  have hF6:=hF4.ext0 hE6
  have q36:=q34.ext0 hE6
  have hSf:=slot_at q36 hk1
  rw [epf] at hSf
  generalize M.fns[k]=G at *
  replace EE:=EE.trans hE6
  have E6:=E4.trans hE6
  clear hB4 hM4 hF4 q34
  repeat' (first|refine w_seq ?_|refine w_reg ?_|refine w_rf rfl (by assumption) (by rfl) (by rfl) (by rfl) ?_|refine w_cond_f rfl ?_|refine w_skip ?_)
  refine w_iadrS rfl rfl q36 hk1 ?_
  refine w_loadA rfl hSf rfl ?_
  refine w_alloc fun iG h7 hG hiG hE7=>?_
  refine w_store rfl rfl hG rfl (by show allOne [.str G.name,.int .i64 G.params,.int .i64 G.vars,cv]=true;simp only [allOne,ocv];rfl) (by decide) (by simp) fun h8 hG8 hE8 hn8=>?_
  replace hG8:Own h8 iG [.str G.name,.int .i64 G.params,.int .i64 G.vars,cv]:=hG8
  have E8:Ext h6 h8:=hE7.step hE8 fun q hq=>by simp at hq;exact .inr (by omega)
  replace EE:=EE.trans E8
  have hB8:=hB6.ext0 E8
  have hF8:=hF6.ext0 E8
  have rcv8:=rcv.1.ext0 EE
  have rv8:=rv.1.ext0 EE
  have rst8:=rst.1.ext0 EE
  have n1:(bv.map intC).length=bv.length:=List.length_map ..
  have n2:(bst.map intC).length=bst.length:=List.length_map ..
  have hcl:∀ (l:List Int) (j:Nat) (hj:j<(l.map intC).length),∃ x,(l.map intC)[j]=[x]∧∀ {h:Heap},Ext h8 h→WPc tab.get O 143 (x :: [.ptr iF 0 0 5]) h (fun r h'=>(∃ b,r=.bool b)∧Ext h h'):=fun l j hj=>⟨.int .i64 (l[j]'(by simpa using hj)),by rw [List.getElem_map];rfl,fun {h} hE=>back1_ok hO (hF8.ext0 hE)⟩
  clear hG hE7 hE8 hB6 hF6 hM6 hSf
  repeat' (first|refine w_seq ?_|refine w_reg ?_|refine w_e ?_|refine w_rf rfl (by assumption) (by rfl) (by rfl) (by rfl) ?_|refine w_len rfl (by assumption) ?_)
  refine w_callA [.int .i64 ba,.int .i64 (.ofNat (G.code.map insC).length)] rfl ((within_ok hO).mono fun _ h9 ⟨e,eh⟩=>?_)
  subst e eh
  refine WPo.mono (Q:=fun ls h'=>(∃ b,nth ls 0=some (.bool b))∧Ext h9 h') ?_ ?_
  ·generalize withinB ba _=bw
   cases bw
   ·repeat' (first|refine w_off rfl ?_|refine w_opk rfl rfl ?_)
    exact w_nil ⟨⟨true,rfl⟩,ExtX.refl _ _⟩
   ·repeat' (first|refine w_off rfl ?_|refine w_rfg rfl rfl (by assumption) (by rfl) (by rfl) (by rfl) (by rfl) ?_|refine w_on rfl ?_|refine w_len rfl (by assumption) ?_|refine w_gtrN rfl rfl (fun hc=>?_) (fun hc=>?_)|refine w_neq rfl rfl (fun hc=>?_) (fun hc=>?_)|refine w_opk rfl rfl ?_)
    ·exact w_nil ⟨⟨true,rfl⟩,ExtX.refl _ _⟩
    ·exact w_nil ⟨⟨true,rfl⟩,ExtX.refl _ _⟩
    refine w_callA [vv,.fn 143 [] [.ptr iF 0 0 5]] rfl ((cfInt_ok hO.i5 hO.j5 rv8 (by have:=hbl.1;show (bv.map intC).length≤_;rw [n1];have:bv.length≤10485760:=this;omega) (hcl bv)).mono fun _ h10 ⟨⟨b,e⟩,hE10⟩=>?_)
    subst e
    have hB10:=hB8.ext0 hE10
    cases b
    ·repeat' (first|refine w_rfg rfl rfl (by assumption) (by rfl) (by rfl) (by rfl) (by rfl) ?_|refine w_on rfl ?_|refine w_opk rfl rfl ?_)
     refine w_callA [vst,.fn 143 [] [.ptr iF 0 0 5]] rfl ((cfInt_ok hO.i5 hO.j5 (rst8.ext0 hE10) (by have:=hbl.2;show (bst.map intC).length≤_;rw [n2];have:bst.length≤10485760:=this;omega) (fun j hj=>by
      obtain ⟨x,e1,e2⟩:=hcl bst j hj
      exact ⟨x,e1,fun {h} hE=>e2 (hE10.trans hE)⟩)).mono fun _ h11 ⟨⟨b,e⟩,hE11⟩=>?_)
     subst e
     repeat' (first|refine w_opk rfl rfl ?_)
     exact w_nil ⟨⟨_,rfl⟩,hE10.trans hE11⟩
    ·repeat' (first|refine w_off rfl ?_|refine w_opk rfl rfl ?_)
     exact w_nil ⟨⟨true,rfl⟩,hE10⟩
  rintro ls10 h10 ⟨⟨b,hn10⟩,hE10⟩
  refine w_outs hn10 rfl ?_
  cases b with
  | true=>
   repeat' (first|refine w_seq ?_|refine w_reg ?_|refine w_e ?_|refine w_opk rfl rfl ?_|refine w_cond_t rfl ?_|refine w_ret ?_|refine w_rt rfl ?_)
   exact fail _ _ (EE.trans hE10)
  | false=>
  repeat' (first|refine w_reg ?_|refine w_e ?_|refine w_addN rfl rfl (by omega) ?_|refine w_opk rfl rfl ?_|refine w_cond_f rfl ?_|refine w_skip ?_)
  exact ⟨hj1,_,_,_,_,_,_,hE.trans ((E6.trans E8).trans hE10),rfl⟩
 ·exact fail _ _ EE
 all_goals exact fail _ _ EE
theorem chk1_ok (hO:OffIc O) {Z:Nat→Prop} {h0:Heap} {mc fc:List V} {M:ModA} {F:FastA} {s:SpecA} {iM iF:Nat} (hm:ModR Z h0 mc M) (hf:FastR Z h0 fc F) (h1:0≤s.1∧s.1≤255) (hM:Own h0 iM mc) (hF:Own h0 iF fc) :
  WPc tab.get O 80 [.agg (specC s),.ptr iM 0 0 4,.ptr iF 0 0 5] h0 (fun v h'=>(∃ b,v=.bool b∧(b=false→MayS M F s))∧Ext h0 h'):=by
 have hms:=hm.shape
 have hfs:fc.length=5:=by
  obtain ⟨vc,ve,vn,le,rfl,s1,s2,s3,s4⟩:=hf
  rfl
 refine w_fn' (hO.c1 _ _) rfl rfl (by simp only [c80,initV,nth] <;> rfl) ?_
 refine w_seq (w_reg (w_box rfl rfl rfl fun iS g1 hS hiS gE1=>?_))
 replace hS:Own g1 iS (specC s):=hS
 have hM1:=hM.ext0 gE1
 have hF1:=hF.ext0 gE1
 repeat' (first|refine w_seq ?_|refine w_reg ?_|refine w_e ?_|refine w_opk rfl rfl ?_)
 refine w_loadA rfl (hM1.at hms.1) (by rw [hms.1];rfl) ?_
 refine w_loadA rfl (hF1.at hfs) (by rw [hfs];rfl) ?_
 rw [show List.take 4 mc=mc from List.take_of_length_le (by omega),show List.take 5 fc=fc from List.take_of_length_le (by omega)]
 refine w_loadA rfl (hS.at (hi:=7) rfl) rfl ?_
 rw [show List.take 7 (specC s)=specC s from rfl]
 refine w_callA [.agg mc,.agg fc,.agg (specC s)] rfl ((may_ok hO (hm.ext gE1 (Z':=Z) (by simp) fun _ q _=>q) (hf.ext0 gE1) h1).mono fun _ h2 ⟨⟨b,e,hb⟩,hE2⟩=>?_)
 subst e
 repeat' (first|refine w_e ?_|refine w_opk rfl rfl ?_|refine w_ret ?_|refine w_rt rfl ?_)
 exact ⟨⟨!b,rfl,fun q=>hb (by cases b <;> simp_all)⟩,gE1.trans hE2⟩
theorem chk2_ok (hO:OffIc O) {Z:Nat→Prop} {h0:Heap} {mc fc:List V} {M:ModA} {F:FastA} {v:V} {l:List BackA} {iM iF:Nat} (hm:ModR Z h0 mc M) (ht:TyM M) (hf:FastR Z h0 fc F) (hl:ExitR Z h0 [v] l) (hb:l.length≤10485760∧∀ b∈l,b.2.2.1.length≤10485760∧b.2.2.2.length≤10485760) (hM:Own h0 iM mc) (hF:Own h0 iF fc) :
  WPc tab.get O 83 [v,.ptr iM 0 0 4,.ptr iF 0 0 5] h0 (fun r h'=>(∃ b,r=.bool b)∧Ext h0 h'):=by
 have hms:=hm.shape
 have hfs:fc.length=5:=by
  obtain ⟨vc,ve,vn,le,rfl,s1,s2,s3,s4⟩:=hf
  rfl
 refine w_fn' (hO.c2 _ _) rfl rfl (by simp only [c83,initV,nth] <;> rfl) ?_
 repeat' (first|refine w_seq ?_|refine w_reg ?_|refine w_e ?_|refine w_opk rfl rfl ?_)
 refine w_loadA rfl (hM.at hms.1) (by rw [hms.1];rfl) ?_
 refine w_loadA rfl (hF.at hfs) (by rw [hfs];rfl) ?_
 rw [show List.take 4 mc=mc from List.take_of_length_le (by omega),show List.take 5 fc=fc from List.take_of_length_le (by omega)]
 repeat' (first|refine w_opk rfl rfl ?_)
 refine w_callA [.agg mc,.agg fc,v] rfl ((back_ok hO hm ht hf hl hb).mono fun _ h2 ⟨⟨b,e⟩,hE2⟩=>?_)
 subst e
 repeat' (first|refine w_e ?_|refine w_opk rfl rfl ?_|refine w_ret ?_|refine w_rt rfl ?_)
 exact ⟨⟨_,rfl⟩,hE2⟩
theorem chk3_ok (hO:OffIc O) {Z:Nat→Prop} {h0:Heap} {mc:List V} {M:ModA} {x:NeedA} {iM:Nat} (hm:ModR Z h0 mc M) (ht:TyM M) (hM:Own h0 iM mc) :
  WPc tab.get O 86 [.agg (needC x),.ptr iM 0 0 4] h0 (fun r h'=>(∃ b,r=.bool b)∧Ext h0 h'):=by
 obtain ⟨cs,ts,fns,rs,lc,lfn,lr,rfl,r1,v1,r2,r3,a3,r4,a4⟩:=hm
 refine w_fn' (hO.c3 _ _) rfl rfl (by simp only [c86,initV,nth] <;> rfl) ?_
 refine w_seq (w_reg (w_box rfl rfl rfl fun iS g1 hS hiS gE1=>?_))
 replace hS:Own g1 iS [.int .i64 x.1,.int .u32 x.2]:=hS
 have hM1:=hM.ext0 gE1
 have q3:=r3.1.ext0 gE1
 repeat' (first|refine w_seq ?_|refine w_reg ?_|refine w_e ?_|refine w_rf rfl (by assumption) (by rfl) (by rfl) (by rfl) ?_|refine w_len rfl (by assumption) ?_|refine w_opk rfl rfl ?_)
 refine w_callA [.int .i64 x.1,.int .i64 (.ofNat lfn.length)] rfl ((within_ok hO).mono fun _ h2 ⟨e,eh⟩=>?_)
 subst e eh
 repeat' (first|refine w_e ?_|refine w_opk rfl rfl ?_|refine w_ret ?_|refine w_rt rfl ?_)
 exact ⟨⟨_,rfl⟩,gE1⟩
theorem irCheck_ok (hO:OffIc O) {Z:Nat→Prop} {h0:Heap} {mc fc:List V} {M:ModA} {F:FastA} (hzn:∀ i,Z i→i<h0.n) (hm:ModR Z h0 mc M) (ht:TyM M) (hX:ModX M) (hf:FastR Z h0 fc F) (htf:TyFa F) :
  WPc tab.get O 33 [.agg mc,.agg fc] h0 (fun r h'=>(∃ e:Int,r=.int .i64 e∧(e=0∨e=130)∧(e=0→1≤F.2.2.1.length∧∀ s∈F.2.2.1,MayS M F s))∧Ext h0 h'):=by
 have hms:=hm.shape
 have hmm:=hm
 have hff:=hf
 obtain ⟨cs,ts,fns,rs,lc,lfn,lr,rfl,r1,v1,r2,r3,a3,r4,a4⟩:=hm
 obtain ⟨vc,ve,vn,le,rfl,s1,s2,s3,s4⟩:=hf
 refine w_fn' (hO.ic _ _) rfl rfl (by simp only [c33,initV,nth] <;> rfl) ?_
 refine w_seq (w_reg (w_box rfl hms.1 hms.2 fun iM g1 hM hiM gE1=>?_))
 refine w_box rfl rfl (by simp only [V.cells,allOne,s1.1.one,s2.1.one,s4.1.one];rfl) fun iF g2 hF hiF gE2=>?_
 have E2:=gE1.trans gE2
 replace hM:Own g2 iM [cs,ts,fns,rs]:=hM.ext0 gE2
 replace hF:Own g2 iF [.int .i64 F.1,.int .i64 F.2.1,vc,ve,vn]:=hF
 have fail:∀ h',Ext h0 h'→(∃ e:Int,packV [.int .i64 (.ofNat 130)]=.int .i64 e∧(e=0∨e=130)∧(e=0→1≤F.2.2.1.length∧∀ s∈F.2.2.1,MayS M F s))∧Ext h0 h':=fun h' e=>⟨⟨_,rfl,.inr rfl,fun q=>absurd q (by decide)⟩,e⟩
 have n1:(F.2.2.1.map specC).length=F.2.2.1.length:=List.length_map ..
 have n2:=s3.1
 have n3:(F.2.2.2.2.map needC).length=F.2.2.2.2.length:=List.length_map ..
 have b3:=ht.fl
 have hlf:=a3.1
 have c1:=htf.cl
 have c2:=htf.el
 have c3:=htf.nl
 repeat' (first|refine w_seq ?_|refine w_reg ?_|refine w_e ?_|refine w_opk rfl rfl ?_)
 refine w_loadA rfl (hM.at rfl) rfl ?_
 refine w_callA [.agg [cs,ts,fns,rs]] rfl ((check_ok hO.toOffCk (hmm.ext E2 (Z':=Z) (by simp) fun _ q _=>q) (fun i hi=>by have:=hzn i hi;have:=E2.1;omega) ht).mono fun _ h3 ⟨⟨e,ee,he⟩,hE3⟩=>?_)
 obtain rfl:=he.2 hX
 subst ee
 have E3:=E2.trans hE3
 have hM3:=hM.ext0 hE3
 have hF3:=hF.ext0 hE3
 have q1:=s1.1.ext0 E3
 repeat' (first|refine w_seq ?_|refine w_reg ?_|refine w_e ?_|refine w_rf rfl (by assumption) (by rfl) (by rfl) (by rfl) ?_|refine w_len rfl (by assumption) ?_|refine w_opk rfl rfl ?_|refine w_cond_f rfl ?_|refine w_skip ?_)
 refine w_loadA rfl (hM3.at rfl) rfl ?_
 repeat' (first|refine w_rf rfl (by assumption) (by rfl) (by rfl) (by rfl) ?_)
 refine w_callA [.agg [cs,ts,fns,rs],.int .i64 F.1] rfl ((body_ok hO (hmm.ext E3 (Z':=Z) (by simp) fun _ q _=>q) ht).mono fun _ h4 ⟨⟨b,e,hb⟩,hE4⟩=>?_)
 subst e
 have E4:=E3.trans hE4
 have hM4:=hM3.ext0 hE4
 have hF4:=hF3.ext0 hE4
 refine WPo.mono (Q:=fun ls h'=>(∃ b,nth ls 0=some (.bool b)∧(b=false→1≤F.2.2.1.length∧F.2.2.1.length≤4000))∧Ext h4 h') ?_ ?_
 ·cases b with
  | false=>
   repeat' (first|refine w_off rfl ?_|refine w_opk rfl rfl ?_)
   exact w_nil ⟨⟨true,rfl,fun q=>absurd q (by decide)⟩,ExtX.refl _ _⟩
  | true=>
  obtain ⟨r,hr,o,ho,hof⟩:=mem_fnsOf.1 (hb rfl)
  have hok:=((ht.ok hX).rs r hr).2.2.1 o ho
  obtain ⟨w1,w2,_⟩:=hok
  rw [hof] at w1 w2
  obtain ⟨k,hk⟩:∃ k:Nat,F.1=Int.ofNat k:=⟨F.1.toNat,(Int.toNat_of_nonneg w1).symm⟩
  have hk0:(Int.ofNat k)<(M.fns.length:Int):=by rw [← hk];exact w2
  have hk3:(k:Int)<M.fns.length:=hk0
  have hk1:k<lfn.length:=by omega
  have hk2:k<M.fns.length:=by omega
  obtain ⟨cv,epf,rcv⟩:=a3.get hk1 hk2
  have q34:=r3.1.ext0 E4
  have hSf:=slot_at q34 hk1
  rw [epf] at hSf
  generalize M.fns[k]=G at *
  have q24:=s2.1.ext0 E4
  have q44:=s4.1.ext0 E4
  rw [hk] at hF4 ⊢
  repeat' (first|refine w_rfg rfl rfl (by assumption) (by rfl) (by rfl) (by rfl) (by rfl) ?_|refine w_on rfl ?_|refine w_opk rfl rfl ?_)
  refine w_iadrS rfl rfl q34 hk1 ?_
  refine w_on rfl (w_fadr rfl hSf rfl fun hSf1=>?_)
  refine w_on rfl (w_load1 rfl hSf1 rfl ?_)
  repeat' (first|refine w_off rfl ?_|refine w_rfg rfl rfl (by assumption) (by rfl) (by rfl) (by rfl) (by rfl) ?_|refine w_on rfl ?_|refine w_len rfl (by assumption) ?_|refine w_lssN rfl rfl (fun hc=>?_) (fun hc=>?_)|refine w_gtrN rfl rfl (fun hc=>?_) (fun hc=>?_)|refine w_lss rfl rfl (fun hc=>?_) (fun hc=>?_)|refine w_gtr rfl rfl (fun hc=>?_) (fun hc=>?_)|refine w_opk rfl rfl ?_)
  all_goals first
   | exact w_nil ⟨⟨true,rfl,fun q=>absurd q (by decide)⟩,ExtX.refl _ _⟩
   | exact w_nil ⟨⟨false,rfl,fun _=>⟨by omega,by omega⟩⟩,ExtX.refl _ _⟩
 rintro ls5 h5 ⟨⟨b5,hn5,hb5⟩,hE5⟩
 refine w_outs hn5 rfl ?_
 have E5:=E4.trans hE5
 have hM5:=hM4.ext0 hE5
 have hF5:=hF4.ext0 hE5
 clear hM3 hM4 hF3 hF4 hM hF
 cases b5 with
 | true=>
  repeat' (first|refine w_seq ?_|refine w_reg ?_|refine w_e ?_|refine w_opk rfl rfl ?_|refine w_cond_t rfl ?_|refine w_ret ?_|refine w_rt rfl ?_)
  exact fail _ E5
 | false=>
 obtain ⟨hc1,hc2⟩:=hb5 rfl
 have hmX:∀ {h},Ext h0 h→ModR Z h [cs,ts,fns,rs] M:=fun {h} e=>hmm.ext e (Z':=Z) (by simp) fun _ q _=>q
 have hfX:∀ {h},Ext h0 h→FastR Z h [.int .i64 F.1,.int .i64 F.2.1,vc,ve,vn] F:=fun {h} e=>hff.ext0 e
 repeat' (first|refine w_seq ?_|refine w_reg ?_|refine w_rf rfl (by assumption) (by rfl) (by rfl) (by rfl) ?_|refine w_opk rfl rfl ?_|refine w_cond_f rfl ?_|refine w_skip ?_)
 refine w_callA [vc,.fn 80 [] [.ptr iM 0 0 4,.ptr iF 0 0 5]] rfl ((cfSpec_ok hO.i1 hO.j1 (P:=fun j b=>b=false→∀ (hj:j<F.2.2.1.length),MayS M F F.2.2.1[j]) (s1.1.ext0 E5) (fun c hc=>by obtain ⟨o,_,rfl⟩:=List.mem_map.1 hc;rfl) (by rw [n1];omega) fun j hj {h} hE=>by
  rw [List.getElem_map]
  have hj':j<F.2.2.1.length:=by omega
  exact (chk1_ok hO (hmX (E5.trans hE)) (hfX (E5.trans hE)) (htf.sp _ (List.getElem_mem hj')) (hM5.ext0 hE) (hF5.ext0 hE)).mono fun r h'' ⟨⟨b,e,hb⟩,hE''⟩=>⟨⟨b,e,fun q _=>hb q⟩,hE''⟩).mono fun _ h6 ⟨⟨b6,e,hb6,_⟩,hE6⟩=>?_)
 subst e
 have E6:=E5.trans hE6
 have hM6:=hM5.ext0 hE6
 have hF6:=hF5.ext0 hE6
 have hspec:b6=false→∀ s∈F.2.2.1,MayS M F s:=fun q s hs=>by
  obtain ⟨j,hj⟩:=List.getElem?_of_mem hs
  obtain ⟨hj1,hj2⟩:=List.getElem?_eq_some_iff.1 hj
  rw [← hj2]
  exact hb6 q j (by omega) rfl hj1
 show WPo _ _ _ _ [_,_,_,_,_,_,_,_,.bool false,_,_,_] _ _
 repeat' (first|refine w_seq ?_|refine w_reg ?_|refine w_e ?_|refine w_opk rfl rfl ?_)
 refine WPo.mono (Q:=fun ls h'=>(∃ b,nth ls 0=some (.bool b)∧(b=false→b6=false))∧Ext h6 h') ?_ ?_
 ·cases b6 with
  | true=>
   repeat' (first|refine w_off rfl ?_|refine w_opk rfl rfl ?_)
   exact w_nil ⟨⟨true,rfl,fun q=>absurd q (by decide)⟩,ExtX.refl _ _⟩
  | false=>
  repeat' (first|refine w_rfg rfl rfl (by assumption) (by rfl) (by rfl) (by rfl) (by rfl) ?_|refine w_on rfl ?_|refine w_opk rfl rfl ?_)
  refine w_callA [ve,.fn 83 [] [.ptr iM 0 0 4,.ptr iF 0 0 5]] rfl ((cfExit_ok hO.i4 hO.j4 (s2.1.ext0 E6) (by omega) fun j hj=>by
   have hj':j<F.2.2.2.1.length:=by omega
   have kx:=s3.get hj hj'
   have kb:=htf.bl _ (List.getElem_mem hj')
   generalize F.2.2.2.1[j]=bl at *
   have kx2:=kx
   obtain ⟨x,lx,ex,_⟩:=kx2
   refine ⟨x,ex,fun {h} hE=>?_⟩
   rw [ex] at kx
   exact chk2_ok hO (hmX (E6.trans hE)) ht (hfX (E6.trans hE)) (kx.ext0 (E6.trans hE)) kb (hM6.ext0 hE) (hF6.ext0 hE)).mono fun _ h7 ⟨⟨b,e⟩,hE7⟩=>?_)
  subst e
  repeat' (first|refine w_opk rfl rfl ?_)
  exact w_nil ⟨⟨_,rfl,fun _=>rfl⟩,hE7⟩
 rintro ls7 h7 ⟨⟨b7,hn7,hb7⟩,hE7⟩
 refine w_outs hn7 rfl ?_
 have E7:=E6.trans hE7
 have hM7:=hM6.ext0 hE7
 have hF7:=hF6.ext0 hE7
 show WPx _ _ _ [_,_,_,_,_,_,_,_,.bool false,.bool b7,_,_] _ _ _ _
 repeat' (first|refine w_seq ?_|refine w_reg ?_|refine w_opk rfl rfl ?_)
 refine WPo.mono (Q:=fun ls h'=>(∃ b,nth ls 0=some (.bool b)∧(b=false→b6=false))∧Ext h7 h') ?_ ?_
 ·cases b7 with
  | true=>
   repeat' (first|refine w_off rfl ?_|refine w_opk rfl rfl ?_)
   exact w_nil ⟨⟨true,rfl,fun q=>absurd q (by decide)⟩,ExtX.refl _ _⟩
  | false=>
  have hb7':=hb7 rfl
  repeat' (first|refine w_rfg rfl rfl (by assumption) (by rfl) (by rfl) (by rfl) (by rfl) ?_|refine w_on rfl ?_|refine w_opk rfl rfl ?_)
  refine w_callA [vn,.fn 86 [] [.ptr iM 0 0 4]] rfl ((cfNeed_ok hO.i3 hO.j3 (P:=fun _ _=>True) (s4.1.ext0 E7) (fun c hc=>by obtain ⟨o,_,rfl⟩:=List.mem_map.1 hc;rfl) (by rw [n3];omega) fun j hj {h} hE=>by
   rw [List.getElem_map]
   exact (chk3_ok hO (hmX (E7.trans hE)) ht (hM7.ext0 hE)).mono fun r h'' ⟨⟨b,e⟩,hE''⟩=>⟨⟨b,e,trivial⟩,hE''⟩).mono fun _ h8 ⟨⟨b,e,_⟩,hE8⟩=>?_)
  subst e
  repeat' (first|refine w_opk rfl rfl ?_)
  exact w_nil ⟨⟨_,rfl,fun _=>hb7'⟩,hE8⟩
 rintro ls8 h8 ⟨⟨b8,hn8,hb8⟩,hE8⟩
 refine w_outs hn8 rfl ?_
 have E8:=E7.trans hE8
 have hF8:=hF7.ext0 hE8
 have q18:=s1.1.ext0 E8
 show WPx _ _ _ [_,_,_,_,_,_,_,_,.bool false,.bool b8,_,_] _ _ _ _
 have hl1:(F.2.2.1.map specC).length - 1<(F.2.2.1.map specC).length:=by omega
 have hl2:(F.2.2.1.map specC).length - 1<F.2.2.1.length:=by omega
 have hS:=slot_at q18 hl1
 rw [List.getElem_map] at hS
 generalize F.2.2.1[(F.2.2.1.map specC).length - 1]=sl at *
 repeat' (first|refine w_seq ?_|refine w_reg ?_|refine w_rf rfl (by assumption) (by rfl) (by rfl) (by rfl) ?_|refine w_opk rfl rfl ?_)
 rw [show wrapK IntKind.i64 (Int.ofNat (F.2.2.1.map specC).length - Int.ofNat 1)=Int.ofNat ((F.2.2.1.map specC).length - 1) from by
  rw [wrapK_eq,show Int.ofNat (F.2.2.1.map specC).length - Int.ofNat 1=Int.ofNat ((F.2.2.1.map specC).length - 1) by
   show (((F.2.2.1.map specC).length:Nat):Int) - 1=(((F.2.2.1.map specC).length - 1:Nat):Int)
   omega]
  exact wrap_i64_nat (by omega)]
 refine w_iadrS rfl rfl q18 hl1 ?_
 refine w_fadr rfl hS rfl fun hS1=>?_
 refine w_load1 rfl hS1 rfl ?_
 cases b8 with
 | true=>
  repeat' (first|refine w_seq ?_|refine w_reg ?_|refine w_e ?_|refine w_off rfl ?_|refine w_opk rfl rfl ?_|refine w_cond_t rfl ?_|refine w_ret ?_|refine w_rt rfl ?_)
  exact fail _ E8
 | false=>
 have hfin:(∃ e:Int,packV [.int .i64 (.ofNat 0)]=.int .i64 e∧(e=0∨e=130)∧(e=0→1≤F.2.2.1.length∧∀ s∈F.2.2.1,MayS M F s))∧Ext h0 h8:=⟨⟨_,rfl,.inl rfl,fun _=>⟨hc1,hspec (hb8 rfl)⟩⟩,E8⟩
 repeat' (first|refine w_seq ?_|refine w_reg ?_|refine w_e ?_|refine w_off rfl ?_|refine w_on rfl ?_|refine w_neq rfl rfl (fun hc=>?_) (fun hc=>?_)|refine w_opk rfl rfl ?_|refine w_cond_t rfl ?_|refine w_cond_f rfl ?_|refine w_skip ?_|refine w_ret ?_|refine w_rt rfl ?_)
 all_goals first
  | exact hfin
  | exact fail _ E8
end AmT
namespace AmT
open Go Am
set_option maxRecDepth 100000
set_option maxHeartbeats 8000000
variable {O:CallF}
theorem fgreat_ok (hO:∀ a h,O 31 a h=none) {Z:Nat→Prop} {h0:Heap} {c:List V} {f:FastA} (hf:FastR Z h0 c f) (htf:TyFa f) :
  WPc tab.get O 31 [.agg c] h0 (fun v h'=>(∃ r,v=.bool r)∧Ext h0 h'):=by
 refine w_fn' (hO _ _) rfl rfl (by simp only [c31,initV,nth] <;> rfl) ?_
 have hsh:=hf.shape
 refine w_seq (w_reg (w_box rfl hsh.1 hsh.2 fun iF h1 hF hiF hE1=>?_))
 replace hF:Own h1 iF c:=hF
 replace hf:=hf.ext0 hE1
 obtain ⟨vc,ve,vn,le,rfl,rc,re,ke,rn⟩:=hf
 obtain ⟨fn,regs,code,exits,needs⟩:=f
 simp only at rc re ke rn ⊢
 have hcl:code.length≤4000000000:=by have:code.length≤10485760:=htf.cl;omega
 have hel:exits.length≤4000000000:=by have:exits.length≤10485760:=htf.el;omega
 have hnl:needs.length≤4000000000:=by have:needs.length≤10485760:=htf.nl;omega
 have hex:=htf.bl
 clear htf
 have r1:=rc.1
 have r2:=re.1
 have r3:=rn.1
 have kl:=ke.1
 repeat' (first|refine w_seq ?_|refine w_reg ?_|refine w_e ?_|refine w_rf rfl (by assumption) (by rfl) (by rfl) (by rfl) ?_|refine w_len rfl (by assumption) ?_|refine w_opk rfl rfl ?_)
 refine w_count (fun j vs h=>h=h1∧∃ b5 n b7 b8 b9 b10 b11,vs=[.agg [.int .i64 fn,.int .i64 regs,vc,ve,vn],.bool false,.ptr iF 0 0 5,.int .i64 (.ofNat j),.int .i64 (.ofNat le.length),b5,.int .i64 n,b7,b8,b9,b10,b11]) le.length ⟨rfl,_,_,_,_,_,_,_,rfl⟩ ?_
 rintro j vs h1 hj ⟨rfl,b5,n,b7,b8,b9,b10,b11,rfl⟩
 repeat' (first|refine w_seq ?_|refine w_reg ?_|refine w_e ?_|refine w_lssN rfl rfl (fun hc=>?_) (fun hc=>?_)|refine w_gtr rfl rfl (fun hc=>?_) (fun hc=>?_)|refine w_opk rfl rfl ?_|refine w_cond_t rfl ?_|refine w_cond_f rfl ?_|refine w_skip ?_|refine w_exit rfl ?_|refine w_ret ?_|refine w_rt rfl ?_)
 ·have hj1:j<le.length:=by assumption
  have hj2:j<exits.length:=by omega
  have hxl:=hex _ (List.getElem_mem hj2)
  have hA1:=slot_at r2 hj1
  obtain ⟨ev,lc,eel,rev,kb⟩:=ke.get hj1 hj2
  rw [eel] at hA1
  have q1:=rev.1
  have kbl:=kb.1
  generalize exits[j]=X at *
  have hXl:X.length≤4000000000:=by have:X.length≤10485760:=hxl.1;omega
  refine w_block ?_
  repeat' (first|refine w_seq ?_|refine w_reg ?_|refine w_e ?_|refine w_rf rfl (by assumption) (by rfl) (by rfl) (by rfl) ?_|refine w_opk rfl rfl ?_)
  refine w_iadrS rfl rfl r2 hj1 ?_
  refine w_load1 (c:=[]) rfl hA1 rfl ?_
  repeat' (first|refine w_seq ?_|refine w_reg ?_|refine w_e ?_|refine w_rf rfl (by assumption) (by rfl) (by rfl) (by rfl) ?_|refine w_len rfl (by assumption) ?_|refine w_opk rfl rfl ?_)
  refine w_iadrS rfl rfl r2 hj1 ?_
  refine w_load1 (c:=[]) rfl hA1 rfl ?_
  repeat' (first|refine w_e ?_|refine w_len rfl (by assumption) ?_|refine w_opk rfl rfl ?_)
  refine w_count (fun k vs h'=>h'=h1∧∃ n b10 b11,vs=[.agg [.int .i64 fn,.int .i64 regs,vc,ve,vn],.bool false,.ptr iF 0 0 5,.int .i64 (.ofNat j),.int .i64 (.ofNat le.length),.bool true,.int .i64 n,.int .i64 (.ofNat j),.int .i64 (.ofNat k),.int .i64 (.ofNat lc.length),b10,b11]) lc.length ⟨rfl,_,_,_,rfl⟩ ?_
  rintro k vs h1 hk ⟨rfl,n',b10',b11',rfl⟩
  repeat' (first|refine w_seq ?_|refine w_reg ?_|refine w_e ?_|refine w_lssN rfl rfl (fun hc=>?_) (fun hc=>?_)|refine w_addN rfl rfl (by omega) ?_|refine w_opk rfl rfl ?_|refine w_cond_t rfl ?_|refine w_cond_f rfl ?_|refine w_skip ?_|refine w_exit rfl ?_)
  ·have hk1:k<lc.length:=by assumption
   have hk2:k<X.length:=by omega
   have kB:=kb.get hk1 hk2
   have hS1:=slot_at q1 hk1
   obtain ⟨vv,vs,eB,rvv,rvs⟩:=kB
   rw [eB] at hS1
   have g1:=rvv.1
   have g2:=rvs.1
   refine w_block ?_
   repeat' (first|refine w_seq ?_|refine w_reg ?_|refine w_e ?_|refine w_rf rfl (by assumption) (by rfl) (by rfl) (by rfl) ?_|refine w_opk rfl rfl ?_)
   refine w_iadrS rfl rfl r2 hj1 ?_
   refine w_load1 (c:=[]) rfl hA1 rfl ?_
   repeat' (first|refine w_opk rfl rfl ?_)
   refine w_iadrS rfl rfl q1 hk1 ?_
   refine w_fadr rfl hS1 rfl fun hS2=>?_
   refine w_load1 rfl hS2 rfl ?_
   repeat' (first|refine w_rf rfl (by assumption) (by rfl) (by rfl) (by rfl) ?_|refine w_len rfl (by assumption) ?_|refine w_opk rfl rfl ?_)
   refine w_iadrS rfl rfl r2 hj1 ?_
   refine w_load1 (c:=[]) rfl hA1 rfl ?_
   repeat' (first|refine w_opk rfl rfl ?_)
   refine w_iadrS rfl rfl q1 hk1 ?_
   refine w_fadr rfl hS1 rfl fun hS2=>?_
   refine w_load1 rfl hS2 rfl ?_
   repeat' (first|refine w_reg ?_|refine w_e ?_|refine w_len rfl (by assumption) ?_|refine w_addN rfl rfl (by omega) ?_|refine w_opk rfl rfl ?_)
   exact ⟨hk1,rfl,_,_,_,rfl⟩
  ·exact ⟨hj1,rfl,_,_,_,_,_,_,_,rfl⟩
 ·exact ⟨⟨_,rfl⟩,hE1⟩
 ·exact ⟨⟨_,rfl⟩,hE1⟩
theorem pick_ok (hO:∀ a h,O 35 a h=none) {h0:Heap} {n:Int} {L:Nat} (hL:0<L) (hL2:L≤20000000):WPc tab.get O 35 [.int .i64 n,.int .i64 (.ofNat L)] h0 (fun v h'=>(∃ k:Nat,v=.int .i64 (.ofNat k)∧k<L)∧h'=h0):=by
 refine w_fn' (hO _ _) rfl rfl (by simp only [c35,initV,nth] <;> rfl) ?_
 have hb:=tmod_bound n hL
 have e0:Int.ofNat L=(L:Int):=rfl
 repeat' (first|refine w_seq ?_|refine w_reg ?_|refine w_e ?_|refine w_lssN rfl rfl (fun hc=>?_) (fun hc=>?_)|refine w_opk rfl rfl ?_|refine w_cond_t rfl ?_|refine w_cond_f rfl ?_|refine w_skip ?_|refine w_ret ?_|refine w_rt rfl ?_)
 ·exact absurd hc (by omega)
 refine w_rem rfl rfl (by omega) ?_
 repeat' (first|refine w_seq ?_|refine w_reg ?_|refine w_e ?_|refine w_lss rfl rfl (fun hc=>?_) (fun hc=>?_)|refine w_opk rfl rfl ?_|refine w_cond_t rfl ?_|refine w_cond_f rfl ?_|refine w_skip ?_|refine w_ret ?_|refine w_rt rfl ?_)
 ·have hc:n.tmod (Int.ofNat L)<0:=hc
  have hq:wrapK .i64 (Int.add (n.tmod (Int.ofNat L)) (Int.ofNat L))=Int.ofNat (n.tmod (Int.ofNat L)+Int.ofNat L).toNat:=by
   have e1:Int.add (n.tmod (Int.ofNat L)) (Int.ofNat L)=n.tmod (Int.ofNat L)+Int.ofNat L:=rfl
   rw [wrapK_eq,e1,wrap_i64_of (by omega) (by omega)]
   show _=((_:Nat):Int)
   omega
  exact ⟨⟨_,by rw [hq];rfl,by omega⟩,rfl⟩
 ·have hc:0≤n.tmod (Int.ofNat L):=hc
  have hq:n.tmod (Int.ofNat L)=Int.ofNat (n.tmod (Int.ofNat L)).toNat:=by
   show _=((_:Nat):Int)
   omega
  exact ⟨⟨(n.tmod (Int.ofNat L)).toNat,by rw [← hq];rfl,by omega⟩,rfl⟩
end AmT
namespace AmT
open Go Am
set_option maxRecDepth 100000
set_option maxHeartbeats 2000000
variable {O:CallF}
theorem great_ok (hO:∀ a h,O 24 a h=none) {h0:Heap} {c:List V} (hm:ModC h0 c):WPc tab.get O 24 [.agg c] h0 (fun v h'=>(∃ b,v=.bool b)∧Ext h0 h'):=by
 refine w_fn' (hO _ _) rfl rfl (by simp only [c24,initV,nth] <;> rfl) ?_
 have hone:=hm.one
 obtain ⟨cs,ts,fs,rs,lc,lt,lf,lr,rfl,hcs,hts,hfs,hrs,hf,hr,bf,br⟩:=hm
 refine w_seq (w_reg (w_box rfl rfl hone.2 fun id h1 ho hn hE=>?_))
 replace hcs:=hcs.ext0 hE
 replace hts:=hts.ext0 hE
 replace hfs:=hfs.ext0 hE
 replace hrs:=hrs.ext0 hE
 replace hf:=fun f hf'=>(hf f hf').ext hE
 replace hr:=fun f hf'=>(hr f hf').ext hE
 repeat' (first|refine w_seq ?_|refine w_reg ?_|refine w_e ?_|refine w_rf rfl (by assumption) (by rfl) (by rfl) (by rfl) ?_|refine w_len rfl (by assumption) ?_|refine w_opk rfl rfl ?_)
 refine w_count (fun j vs h=>h1=h∧∃ b n w,vs=[.agg [cs,ts,fs,rs],.bool false,.ptr id 0 0 4,.int .i64 (.ofNat j),.int .i64 (.ofNat lf.length),b,.int .i64 n,w,.any,.any,.any,.any]) lf.length ⟨rfl,_,_,_,rfl⟩ ?_
 rintro j vs h hj ⟨rfl,b,n,w,rfl⟩
 repeat' (first|refine w_seq ?_|refine w_reg ?_|refine w_e ?_|refine w_rf rfl (by assumption) (by rfl) (by rfl) (by rfl) ?_|refine w_len rfl (by assumption) ?_|refine w_lssN rfl rfl (fun hc=>?_) (fun hc=>?_)|refine w_opk rfl rfl ?_|refine w_cond_t rfl ?_|refine w_cond_f rfl ?_|refine w_skip ?_|refine w_exit rfl ?_)
 ·refine w_block ?_
  repeat' (first|refine w_seq ?_|refine w_reg ?_|refine w_e ?_|refine w_rf rfl (by assumption) (by rfl) (by rfl) (by rfl) ?_|refine w_opk rfl rfl ?_)
  refine w_iadr rfl rfl hfs (by assumption) fun p hp=>?_
  obtain ⟨nm,pp,vv,code,l,e1,e2,-,-⟩:=hf _ (List.getElem_mem (by assumption))
  rw [e1] at hp
  refine w_fadr rfl hp rfl fun hp2=>?_
  refine w_load1 rfl hp2 rfl ?_
  repeat' (first|refine w_reg ?_|refine w_e ?_|refine w_len rfl (by assumption) ?_|refine w_addN rfl rfl (by omega) ?_|refine w_opk rfl rfl ?_)
  exact ⟨by assumption,rfl,_,_,_,rfl⟩
 refine w_count (fun j vs h=>h1=h∧∃ a b n w u x y,vs=[.agg [cs,ts,fs,rs],.bool false,.ptr id 0 0 4,a,b,u,.int .i64 n,w,.int .i64 (.ofNat j),.int .i64 (.ofNat lr.length),x,y]) lr.length ⟨rfl,_,_,_,_,_,_,_,rfl⟩ ?_
 rintro j vs h hj ⟨rfl,a,b,n,w,u,x,y,rfl⟩
 repeat' (first|refine w_seq ?_|refine w_reg ?_|refine w_e ?_|refine w_lssN rfl rfl (fun hc=>?_) (fun hc=>?_)|refine w_gtr rfl rfl (fun hc=>?_) (fun hc=>?_)|refine w_opk rfl rfl ?_|refine w_cond_t rfl ?_|refine w_cond_f rfl ?_|refine w_skip ?_|refine w_exit rfl ?_|refine w_ret ?_|refine w_rt rfl ?_)
 ·refine w_block ?_
  repeat' (first|refine w_seq ?_|refine w_reg ?_|refine w_e ?_|refine w_rf rfl (by assumption) (by rfl) (by rfl) (by rfl) ?_|refine w_opk rfl rfl ?_)
  refine w_iadr rfl rfl hrs (by assumption) fun p hp=>?_
  obtain ⟨nm,pp,code,l,e1,e2,-,-⟩:=hr _ (List.getElem_mem (by assumption))
  rw [e1] at hp
  refine w_fadr rfl hp rfl fun hp2=>?_
  refine w_load1 rfl hp2 rfl ?_
  repeat' (first|refine w_reg ?_|refine w_e ?_|refine w_len rfl (by assumption) ?_|refine w_addN rfl rfl (by omega) ?_|refine w_opk rfl rfl ?_)
  exact ⟨by assumption,rfl,_,_,_,_,_,_,_,rfl⟩
 ·exact ⟨⟨_,rfl⟩,hE⟩
 ·exact ⟨⟨_,rfl⟩,hE⟩
end AmT
