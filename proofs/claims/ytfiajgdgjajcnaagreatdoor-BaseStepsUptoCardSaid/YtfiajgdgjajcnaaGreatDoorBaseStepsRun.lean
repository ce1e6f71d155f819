/-
  The interpreter under the abstract machine, part BaseStepsRun. Conditions: those that each theorem states.
-/
import Derived.Test.YtfiajgdgjajcnaaGreatDoorIF
import Derived.Test.YtfiajgdgjajcnaaGreatDoorIA
set_option linter.unusedSimpArgs false
set_option linter.unusedVariables false
namespace AmT
open Go Am
set_option maxRecDepth 100000
set_option maxHeartbeats 8000000
variable {O:CallF}
structure OffSt (O:CallF):Prop where
 rn:OffRun O
 rg:OffRg O
 bg:OffBg O
 ck:OffCk O
 ws:OffWS O
 wf:OffWF O
 gr:∀ a h,O 24 a h=none
 aw:∀ {h:Heap},WPc tab.get O 21 [] h (fun r h'=>r=.bool true∧Ext h h')
theorem zero_over {c:List V} (h:c.length=9):splice [V.nils,V.nils,nI 0,nI 0,nI 0,nB 0,nI 0,nI 0,V.nils] 0 c=c:=over_all (by rw [h];rfl)
theorem baseSteps_ok (hO:OffSt O) (hL:∀ a h,O 5 a h=none) {mc qc:List V} {M:ModA} {q:AskA} {h0:Heap} (hm0:ModR (fun _=>False) h0 mc M) (ht:TyM M) (hq0:AskR (fun _=>False) h0 qc q) (htq:TyAsk q) :
  WPc tab.get O 5 [.agg mc,.agg qc] h0 (fun r _=>r=.bool true):=by
 have hms:=hm0.shape
 have hmE:∀ {h},Ext h0 h→∀ Z,ModR Z h mc M:=fun {h} hE Z=>hm0.ext hE (by simp) fun j hj _=>hj.elim
 have hz0:∀ {h:Heap} (i:Nat),(fun _=>False) i→i<h.n:=fun i hi=>hi.elim
 obtain ⟨sv,av,ls,la,rfl,rs,vs0,ra,va⟩:=hq0
 have os:=rs.1.one
 have oa:=ra.1.one
 refine w_fn' (hL _ _) rfl rfl (by simp only [c5,initV,nth] <;> rfl) ?_
 refine w_seq (w_reg (w_box rfl hms.1 hms.2 fun iA h1 hA hiA hE1=>?_))
 refine w_box rfl rfl (by show allOne [.int .i64 q.role,sv,.str q.tag,av,.int .i64 q.self,.int .i64 q.next,.int .i64 q.steps]=true;simp only [allOne,os,oa];rfl) fun iB h2 hB hiB hE2=>?_
 have E2:=hE1.trans hE2
 replace hA:Own h2 iA mc:=hA.ext0 hE2
 replace hB:Own h2 iB [.int .i64 q.role,sv,.str q.tag,av,.int .i64 q.self,.int .i64 q.next,.int .i64 q.steps]:=hB
 have e4:List.take 4 mc=mc:=List.take_of_length_le (by omega)
 have bs:=htq.s.1
 have ba:=htq.a.1
 repeat' (first|refine w_seq ?_|refine w_reg ?_|refine w_e ?_|refine w_opk rfl rfl ?_)
 refine w_loadA rfl (hA.at hms.1) (by rw [hms.1];rfl) ?_
 rw [e4]
 refine w_callA [.agg mc] rfl ((great_ok hO.gr ((hmE E2 (fun _=>False)).c ht)).mono fun _ h3 ⟨⟨b1,e⟩,hE3⟩=>?_)
 subst e
 have E3:=E2.trans hE3
 have hA3:=hA.ext0 hE3
 have hB3:=hB.ext0 hE3
 cases b1 with
 | true=>
  repeat' (first|refine w_seq ?_|refine w_reg ?_|refine w_e ?_|refine w_off rfl ?_|refine w_opk rfl rfl ?_|refine w_cond_t rfl ?_)
  refine w_callA [] rfl (hO.aw.mono fun _ _ ⟨e,_⟩=>?_)
  subst e
  repeat' (first|refine w_e ?_|refine w_opk rfl rfl ?_|refine w_ret ?_|refine w_rt rfl ?_)
  rfl
 | false=>
 repeat' (first|refine w_rfg rfl rfl (by assumption) (by rfl) (by rfl) (by rfl) (by rfl) ?_|refine w_on rfl ?_|refine w_opk rfl rfl ?_)
 refine w_callA [sv] rfl ((fewW_ok hO.wf (rs.1.ext0 E3) (vs0.ext0 E3) (by omega) (fun a ha=>(htq.s.2 a ha).2)).mono fun _ h4 ⟨⟨b2,e⟩,hE4⟩=>?_)
 subst e
 have E4:=E3.trans hE4
 have hA4:=hA3.ext0 hE4
 have hB4:=hB3.ext0 hE4
 clear hA hB hA3 hB3
 cases b2 with
 | false=>
  repeat' (first|refine w_seq ?_|refine w_reg ?_|refine w_e ?_|refine w_off rfl ?_|refine w_on rfl ?_|refine w_opk rfl rfl ?_|refine w_cond_t rfl ?_)
  refine w_callA [] rfl (hO.aw.mono fun _ _ ⟨e,_⟩=>?_)
  subst e
  repeat' (first|refine w_e ?_|refine w_opk rfl rfl ?_|refine w_ret ?_|refine w_rt rfl ?_)
  rfl
 | true=>
 repeat' (first|refine w_rfg rfl rfl (by assumption) (by rfl) (by rfl) (by rfl) (by rfl) ?_|refine w_on rfl ?_|refine w_opk rfl rfl ?_)
 refine w_callA [av] rfl ((fewW_ok hO.wf (ra.1.ext0 E4) (va.ext0 E4) (by omega) (fun a ha=>(htq.a.2 a ha).2)).mono fun _ h5 ⟨⟨b3,e⟩,hE5⟩=>?_)
 subst e
 have E5:=E4.trans hE5
 have hA5:=hA4.ext0 hE5
 have hB5:=hB4.ext0 hE5
 clear hA4 hB4
 cases b3 with
 | false=>
  repeat' (first|refine w_seq ?_|refine w_reg ?_|refine w_e ?_|refine w_on rfl ?_|refine w_opk rfl rfl ?_|refine w_cond_t rfl ?_)
  refine w_callA [] rfl (hO.aw.mono fun _ _ ⟨e,_⟩=>?_)
  subst e
  repeat' (first|refine w_e ?_|refine w_opk rfl rfl ?_|refine w_ret ?_|refine w_rt rfl ?_)
  rfl
 | true=>
 repeat' (first|refine w_seq ?_|refine w_reg ?_|refine w_e ?_|refine w_on rfl ?_|refine w_opk rfl rfl ?_|refine w_cond_f rfl ?_|refine w_skip ?_)
 refine w_loadA rfl (hA5.at hms.1) (by rw [hms.1];rfl) ?_
 rw [e4]
 repeat' (first|refine w_rf rfl (by assumption) (by rfl) (by rfl) (by rfl) ?_)
 by_cases hBO:BegOk M q
 case neg=>
  refine w_callA [.agg mc,.int .i64 q.role,sv,.str q.tag,av,.int .i64 q.self,.int .i64 q.next] rfl ((beginBad_ok hO.bg hO.ck (fun i hi=>hi.elim) (hmE E5 (fun _=>False)) ht htq (rs.ext0 E5) (vs0.ext0 E5) (ra.ext0 E5) (va.ext0 E5) hBO).mono fun _ h6 ⟨⟨c,e,ew,he,hc1,hc2⟩,hE6⟩=>?_)
  subst ew
  repeat' (first|refine w_opk rfl rfl ?_)
  refine w_alloc fun iT h7 hT hiT hE7=>?_
  refine w_store rfl rfl hT hc1 hc2 (by decide) (by simp) fun h8 hT8 hE8 hn8=>?_
  repeat' (first|refine w_seq ?_|refine w_reg ?_|refine w_e ?_|refine w_opk rfl rfl ?_)
  rw [show iNot (iEq e (Int.ofNat 0))=true from by rw [show iEq e (Int.ofNat 0)=false from by rw [iEq_eq];exact beq_false_of_ne he];rfl]
  repeat' (first|refine w_seq ?_|refine w_reg ?_|refine w_cond_t rfl ?_)
  refine w_callA [] rfl (hO.aw.mono fun _ _ ⟨e,_⟩=>?_)
  subst e
  repeat' (first|refine w_e ?_|refine w_opk rfl rfl ?_|refine w_ret ?_|refine w_rt rfl ?_)
  rfl
 case pos=>
 obtain ⟨hX,r,p,hr,hrp,hpl,hso,hao⟩:=hBO
 have hM:=ht.ok hX
 have ckx:∀ {h},Ext h0 h→WPc tab.get O 32 [.agg mc] h (fun r h'=>r=.int .i64 (.ofNat 0)∧Ext h h'):=fun {h} hE=>(check_ok hO.ck (hmE hE (fun _=>False)) (fun i hi=>hi.elim) ht).mono fun _ _ ⟨⟨e,ev,he⟩,hE'⟩=>⟨by rw [ev,he.2 hX];rfl,hE'⟩
 have hf:=beg_fields M r p q.state q.tag q.args q.self q.next
 have hgo:(begT M r p q.state q.tag q.args q.self q.next).over=0→_:=fun ho=>begT_ok hM hrp hpl hso hao htq.se htq.nx ho
 have hTl:=fun n hb=>tl_any hM (n:=n) (fun ho=>(hgo ho).1) hso htq.nx hb
 have hBg:Bgn M (begT M r p q.state q.tag q.args q.self q.next):=⟨hgo,fun ho=>by rw [beg_over ho],by rw [hf.2.2.2];simp⟩
 have hbt:=beg_bnd (M:=M) hso (fun ho=>(hgo ho).2)
 have hbeg:∀ {h:Heap},Ext h0 h→WPc tab.get O 16 [.agg mc,.int .i64 (.ofNat r),sv,.str q.tag,av,.int .i64 q.self,.int .i64 q.next] h (fun w h'=>∃ c,w=.tuple [.agg c,.int .i64 (.ofNat 0)]∧TrnI (fun i=>i<h'.n) h' c (begT M r p q.state q.tag q.args q.self q.next)∧Ext h h'):=fun {h} hE=>
  (begin_ok hO.bg hM (fun i hi=>hi.elim) (hmE hE (fun _=>False)) hrp hpl (rs.ext0 hE) (vs0.ext0 hE) (ra.ext0 hE) (va.ext0 hE) hso hao (by omega) fun {h'} hE'=>ckx (hE.trans hE')).mono fun _ _ ⟨c,e,hT,hE'⟩=>⟨c,e,hT.mono fun j _ hj=>hj,hE'⟩
 generalize begT M r p q.state q.tag q.args q.self q.next=T0 at *
 rw [hr] at hB5 ⊢
 refine w_callA [.agg mc,.int .i64 (.ofNat r),sv,.str q.tag,av,.int .i64 q.self,.int .i64 q.next] rfl ((hbeg E5).mono fun _ h6 ⟨c1,e,hT1,hE6⟩=>?_)
 subst e
 have s1:=hT1.shape
 repeat' (first|refine w_opk rfl rfl ?_)
 refine w_alloc fun i1 h7 hC1 hi1 hE7=>?_
 refine w_store rfl rfl hC1 s1.1 s1.2 (by decide) (by simp) fun h8 hC1 hE8 hn8=>?_
 have X8:Ext h6 h8:=hE7.step hE8 fun q hq=>by simp at hq;exact .inr (by omega)
 replace hC1:Own h8 i1 c1:=by rw [← zero_over s1.1];exact hC1
 have E8:=(E5.trans hE6).trans X8
 have hA8:=(hA5.ext0 hE6).ext0 X8
 have hB8:=(hB5.ext0 hE6).ext0 X8
 have hT1':TrnI (fun i=>i<h8.n) h8 c1 T0:=hT1.ext X8 (by simp) fun j _ hj=>by have:=X8.1;omega
 clear hA5 hB5 hE7 hE8 hT1
 repeat' (first|refine w_seq ?_|refine w_reg ?_|refine w_e ?_|refine w_opk rfl rfl ?_|refine w_cond_f rfl ?_|refine w_skip ?_)
 refine w_loadA rfl (hA8.at hms.1) (by rw [hms.1];rfl) ?_
 rw [e4]
 repeat' (first|refine w_rf rfl (by assumption) (by rfl) (by rfl) (by rfl) ?_)
 refine w_callA [.agg mc,.int .i64 (.ofNat r),sv,.str q.tag,av,.int .i64 q.self,.int .i64 q.next] rfl ((hbeg E8).mono fun _ h9 ⟨c2,e,hT2,hE9⟩=>?_)
 subst e
 have s2:=hT2.shape
 repeat' (first|refine w_opk rfl rfl ?_)
 refine w_alloc fun i2 h10 hC2 hi2 hE10=>?_
 refine w_store rfl rfl hC2 s2.1 s2.2 (by decide) (by simp) fun h11 hC2 hE11 hn11=>?_
 have X11:Ext h9 h11:=hE10.step hE11 fun q hq=>by simp at hq;exact .inr (by omega)
 replace hC2:Own h11 i2 c2:=by rw [← zero_over s2.1];exact hC2
 have E11:=(E8.trans hE9).trans X11
 have hA11:=(hA8.ext0 hE9).ext0 X11
 have hB11:=(hB8.ext0 hE9).ext0 X11
 have hC1b:=(hC1.ext0 hE9).ext0 X11
 have t1:TrnI (fun i=>i<h11.n) h11 c1 T0:=((hT1'.ext0 hE9).ext0 X11).mono fun j _ hj=>hj
 have t2:TrnI (fun i=>i<h11.n) h11 c2 T0:=(hT2.ext0 X11).mono fun j _ hj=>hj
 clear hA8 hB8 hE10 hE11 hT2 hT1' hC1
 repeat' (first|refine w_seq ?_|refine w_reg ?_|refine w_e ?_|refine w_opk rfl rfl ?_)
 refine w_loadA rfl (hA11.at hms.1) (by rw [hms.1];rfl) ?_
 rw [e4]
 refine w_loadA rfl (hC1b.at s1.1) (by rw [s1.1];rfl) ?_
 have e91:List.take 9 c1=c1:=List.take_of_length_le (by omega)
 have e92:List.take 9 c2=c2:=List.take_of_length_le (by omega)
 rw [e91]
 refine w_callA [.agg mc,.agg c1] rfl ((rightB_ok hO.rg hM (fun i hi=>hi) (hmE E11 (fun i=>i<h11.n)) t1 hBg fun {h} hE=>ckx (E11.trans hE)).mono fun _ h12 ⟨e,hE12⟩=>?_)
 subst e
 have E12:=E11.trans hE12
 have hA12:=hA11.ext0 hE12
 have hB12:=hB11.ext0 hE12
 have hC1c:=hC1b.ext0 hE12
 have hC2c:=hC2.ext0 hE12
 have t1c:=(t1.ext0 hE12).mono (Z':=fun i=>i<h12.n) fun j _ hj=>hj
 have t2c:=(t2.ext0 hE12).mono (Z':=fun i=>i<h12.n) fun j _ hj=>hj
 clear hA11 hB11 hC1b hC2 t1 t2
 repeat' (first|refine w_seq ?_|refine w_reg ?_|refine w_e ?_|refine w_opk rfl rfl ?_|refine w_cond_f rfl ?_|refine w_skip ?_)
 refine w_loadA rfl (hA12.at hms.1) (by rw [hms.1];rfl) ?_
 rw [e4]
 refine w_loadA rfl (hC1c.at s1.1) (by rw [s1.1];rfl) ?_
 rw [e91]
 repeat' (first|refine w_rf rfl (by assumption) (by rfl) (by rfl) (by rfl) ?_)
 refine w_mn1 rfl rfl fun st hst=>?_
 refine w_callA [.agg mc,.agg c1,.int .i64 st] rfl ((runB_ok hO.rn hO.rg hM (fun i hi=>hi) (hmE E12 (fun i=>i<h12.n)) t1c hBg (by have:st=min q.steps 400:=hst;omega) fun {h} hE=>ckx (E12.trans hE)).mono fun _ h13 ⟨c3,e,hT3,hE13⟩=>?_)
 subst e
 have hst':st=min q.steps 400:=hst
 have hl0:=hTl st.toNat (by omega)
 generalize hXr:runT M st.toNat T0=X at *
 have s3:=hT3.shape
 refine w_alloc fun i3 h14 hC3 hi3 hE14=>?_
 refine w_store rfl rfl hC3 s3.1 s3.2 (by decide) (by simp) fun h15 hC3 hE15 hn15=>?_
 have X15:Ext h13 h15:=hE14.step hE15 fun q hq=>by simp at hq;exact .inr (by omega)
 replace hC3:Own h15 i3 c3:=by rw [← zero_over s3.1];exact hC3
 have E15:=(E12.trans hE13).trans X15
 have hA15:=(hA12.ext0 hE13).ext0 X15
 have hB15:=(hB12.ext0 hE13).ext0 X15
 have hC1d:=(hC1c.ext0 hE13).ext0 X15
 have hC2d:=(hC2c.ext0 hE13).ext0 X15
 have t1d:=((t1c.ext0 hE13).ext0 X15).mono (Z':=fun i=>i<h15.n) fun j _ hj=>hj
 have t2d:=((t2c.ext0 hE13).ext0 X15).mono (Z':=fun i=>i<h15.n) fun j _ hj=>hj
 have t3d:=(hT3.ext0 X15).mono (Z':=fun i=>i<h15.n) fun j _ hj=>hj
 clear hA12 hB12 hC1c hC2c t1c t2c hT3 hE14 hE15
 repeat' (first|refine w_seq ?_|refine w_reg ?_|refine w_e ?_)
 refine w_loadA rfl (hC1d.at s1.1) (by rw [s1.1];rfl) ?_
 refine w_loadA rfl (hC2d.at s2.1) (by rw [s2.1];rfl) ?_
 rw [e91,e92]
 refine w_callA [.agg c1,.agg c2] rfl ((same12W_ok hO.ws t1d t2d hbt).mono fun _ h16 ⟨e,hE16⟩=>?_)
 subst e
 have E16:=E15.trans hE16
 have hA16:=hA15.ext0 hE16
 have hB16:=hB15.ext0 hE16
 have hC1e:=hC1d.ext0 hE16
 have hC3e:=hC3.ext0 hE16
 have t1e:=(t1d.ext0 hE16).mono (Z':=fun i=>i<h16.n) fun j _ hj=>hj
 have t3e:=(t3d.ext0 hE16).mono (Z':=fun i=>i<h16.n) fun j _ hj=>hj
 clear hA15 hB15 hC1d hC2d hC3 t1d t2d t3d
 have tX:=t3e
 obtain ⟨vf,ve,vs,lf,le,lst,ec3,tf,lfl,sf,te,ae,tst,vst,_,te2,_⟩:=t3e
 have lf0:lf.length=0:=by rw [lfl,hl0.fr];rfl
 have rtf:=tf.1
 have rte:=te.1
 have hle:=ae.1
 have hel:=hl0.el
 subst ec3
 have eo:iEq X.over (Int.ofNat 0)=false:=by rw [iEq_eq];exact beq_false_of_ne hl0.o
 have hC3x:Own h16 i3 [vf,ve,.int .i64 X.self,.int .i64 X.next,.int .i64 X.used,.int .u8 X.over,.int .i64 X.trap,.int .i64 X.role,vs]:=hC3e
 have olf:iLt (Int.ofNat 0) (Int.ofNat lf.length)=false:=by rw [lf0];rfl
 repeat' (first|refine w_rfg rfl rfl (by assumption) (by rfl) (by rfl) (by rfl) (by rfl) ?_|refine w_on rfl ?_|refine w_opk rfl rfl ?_)
 rw [eo]
 repeat' (first|refine w_e ?_|refine w_rfg rfl rfl (by assumption) (by rfl) (by rfl) (by rfl) (by rfl) ?_|refine w_on rfl ?_|refine w_len rfl (by assumption) ?_|refine w_opk rfl rfl ?_)
 rw [olf]
 repeat' (first|refine w_seq ?_|refine w_reg ?_|refine w_rf rfl (by assumption) (by rfl) (by rfl) (by rfl) ?_|refine w_opk rfl rfl ?_|refine w_cond_f rfl ?_|refine w_skip ?_)
 have hX2:X.over=4→X.state=q.state:=fun h=>(hl0.t h).2.2.1.trans hf.2.1
 refine WPo.mono (Q:=fun ls h'=>nth ls 0=some (.bool false)∧Ext h16 h') ?_ ?_
 ·by_cases h4:X.over=4
  ·obtain ⟨g1,g2,g3,g4⟩:=hl0.t h4
   have le0:le.length=0:=by rw [hle,g1];rfl
   have ole:iLt (Int.ofNat 0) (Int.ofNat le.length)=false:=by rw [le0];rfl
   rw [show iEq X.over (Int.ofNat 4)=true from by rw [iEq_eq,h4];rfl]
   repeat' (first|refine w_rfg rfl rfl (by assumption) (by rfl) (by rfl) (by rfl) (by rfl) ?_|refine w_on rfl ?_|refine w_len rfl (by assumption) ?_|refine w_opk rfl rfl ?_)
   rw [ole]
   repeat' (first|refine w_rfg rfl rfl (by assumption) (by rfl) (by rfl) (by rfl) (by rfl) ?_|refine w_on rfl ?_|refine w_opk rfl rfl ?_)
   rw [show iNot (iEq X.next q.next)=false from by rw [g2,hf.1,iEq_eq,beq_self_eq_true];rfl]
   repeat' (first|refine w_rfg rfl rfl (by assumption) (by rfl) (by rfl) (by rfl) (by rfl) ?_|refine w_on rfl ?_)
   refine w_callA [vs,sv] rfl ((sameValsW_ok hO.ws.toOffVals tst.1 vst (rs.1.ext0 E16) (by rw [hX2 h4];exact vs0.ext0 E16) (by rw [hX2 h4];omega) (fun a ha=>(hl0.sv a ha).bnd)).mono fun _ h17 ⟨e,hE17⟩=>?_)
   subst e
   have hC3y:=hC3x.ext0 hE17
   have hB17:=hB16.ext0 hE17
   repeat' (first|refine w_rfg rfl rfl (by assumption) (by rfl) (by rfl) (by rfl) (by rfl) ?_|refine w_on rfl ?_|refine w_opk rfl rfl ?_)
   rw [show iNot (iEq X.role (Int.ofNat r))=false from by rw [g4,hf.2.2.1,iEq_eq,beq_self_eq_true];rfl]
   skip
   exact w_nil ⟨rfl,hE17⟩
  ·rw [show iEq X.over (Int.ofNat 4)=false from by rw [iEq_eq];exact beq_false_of_ne h4]
   repeat' (first|refine w_off rfl ?_|refine w_opk rfl rfl ?_)
   exact w_nil ⟨rfl,ExtX.refl _ _⟩
 rintro ls17 h17 ⟨hn17,hE17⟩
 refine w_outs hn17 rfl ?_
 have E17:=E16.trans hE17
 have hA17:=hA16.ext0 hE17
 have hB17:=hB16.ext0 hE17
 have hC1f:=hC1e.ext0 hE17
 have hC3y:=hC3x.ext0 hE17
 have t1f:=(t1e.ext0 hE17).mono (Z':=fun i=>i<h17.n) fun j _ hj=>hj
 have tXf:=(tX.ext0 hE17).mono (Z':=fun i=>i<h17.n) fun j _ hj=>hj
 replace rte:=rte.ext0 hE17
 replace ae:=ae.mono fun _ _ _ _ k=>k.ext hE17 (Z':=fun i=>i<h17.n) (by simp) fun j hj _=>by have:j<h16.n:=hj;have:=hE17.1;show j<h17.n;omega
 clear hA16 hB16 hC1e hC3e hC3x t1e tX rtf
 repeat' (first|refine w_seq ?_|refine w_reg ?_|refine w_rf rfl (by assumption) (by rfl) (by rfl) (by rfl) ?_|refine w_opk rfl rfl ?_|refine w_cond_f rfl ?_|refine w_skip ?_)
 by_cases h8:X.trap=8
 ·rw [show iEq X.trap (Int.ofNat 8)=true from by rw [iEq_eq,h8];rfl]
  repeat' (first|refine w_seq ?_|refine w_reg ?_|refine w_e ?_|refine w_off rfl ?_|refine w_rf rfl (by assumption) (by rfl) (by rfl) (by rfl) ?_|refine w_opk rfl rfl ?_|refine w_cond_t rfl ?_)
  refine w_mn1 rfl rfl fun st2 hs2=>?_
  refine w_mx1 rfl rfl rfl ?_
  have hu8:=hl0.u8 h8
  have hmx:iEq X.used (if st2 > Int.ofNat 0 then st2 else Int.ofNat 0)=true:=by
   rw [iEq_eq]
   have hs2':st2=min q.steps 400:=hs2
   have h1:X.used=if st2 > Int.ofNat 0 then st2 else Int.ofNat 0:=by
    rw [hu8,hst',hs2']
    by_cases h:min q.steps 400 > 0
    ·rw [if_pos (show min q.steps 400 > Int.ofNat 0 from h)];omega
    ·rw [if_neg (show ¬ min q.steps 400 > Int.ofNat 0 from h)];show ((min q.steps 400).toNat:Int)=0;omega
   rw [← h1]
   exact beq_self_eq_true _
  repeat' (first|refine w_opk rfl rfl ?_)
  rw [hmx]
  repeat' (first|refine w_e ?_|refine w_off rfl ?_|refine w_opk rfl rfl ?_|refine w_ret ?_|refine w_rt rfl ?_)
  rfl
 rw [show iEq X.trap (Int.ofNat 8)=false from by rw [iEq_eq];exact beq_false_of_ne h8]
 repeat' (first|refine w_e ?_|refine w_rfg rfl rfl (by assumption) (by rfl) (by rfl) (by rfl) (by rfl) ?_|refine w_on rfl ?_|refine w_opk rfl rfl ?_)
 by_cases h7:X.trap=7
 ·rw [show iEq X.trap (Int.ofNat 7)=true from by rw [iEq_eq,h7];rfl]
  repeat' (first|refine w_seq ?_|refine w_reg ?_|refine w_rf rfl (by assumption) (by rfl) (by rfl) (by rfl) ?_|refine w_cond_t rfl ?_)
  refine w_mn1 rfl rfl fun st2 hs2=>?_
  refine w_mx1 rfl rfl rfl ?_
  have hu7:=hl0.u7 h7
  have hu0:iEq X.used (Int.ofNat 0)=true:=by rw [iEq_eq,hu7];rfl
  have ht7:iEq X.trap (Int.ofNat 7)=true:=by rw [iEq_eq,h7];rfl
  repeat' (first|refine w_opk rfl rfl ?_)
  generalize iEq X.used (if st2 > Int.ofNat 0 then st2 else Int.ofNat 0)=bb at *
  cases bb with
  | true=>
   repeat' (first|refine w_e ?_|refine w_off rfl ?_|refine w_opk rfl rfl ?_|refine w_ret ?_|refine w_rt rfl ?_)
   rfl
  | false=>
   repeat' (first|refine w_rfg rfl rfl (by assumption) (by rfl) (by rfl) (by rfl) (by rfl) ?_|refine w_on rfl ?_|refine w_opk rfl rfl ?_)
   rw [ht7]
   repeat' (first|refine w_rfg rfl rfl (by assumption) (by rfl) (by rfl) (by rfl) (by rfl) ?_|refine w_on rfl ?_|refine w_opk rfl rfl ?_)
   rw [hu0]
   repeat' (first|refine w_on rfl ?_)
   refine w_callA [] rfl (hO.aw.mono fun _ _ ⟨e,_⟩=>?_)
   subst e
   repeat' (first|refine w_e ?_|refine w_on rfl ?_|refine w_opk rfl rfl ?_|refine w_ret ?_|refine w_rt rfl ?_)
   rfl
 rw [show iEq X.trap (Int.ofNat 7)=false from by rw [iEq_eq];exact beq_false_of_ne h7]
 repeat' (first|refine w_seq ?_|refine w_reg ?_|refine w_cond_f rfl ?_|refine w_skip ?_)
 obtain ⟨k,k1,k2,ku,kx,ky8,kyu⟩:=hl0.k h8 h7
 have k400:k≤400:=by have:st=min q.steps 400:=hst';omega
 have ew:wrapK IntKind.i64 (X.used - Int.ofNat 1)=Int.ofNat (k - 1):=by
  rw [wrapK_eq,ku,show (k:Int) - Int.ofNat 1=Int.ofNat (k - 1) by show (k:Int) - 1=((k - 1:Nat):Int);omega]
  exact wrap_i64_nat (by omega)
 have e93:List.take 9 [vf,ve,V.int .i64 X.self,.int .i64 X.next,.int .i64 X.used,.int .u8 X.over,.int .i64 X.trap,.int .i64 X.role,vs]=[vf,ve,.int .i64 X.self,.int .i64 X.next,.int .i64 X.used,.int .u8 X.over,.int .i64 X.trap,.int .i64 X.role,vs]:=rfl
 refine w_loadA rfl (hA17.at hms.1) (by rw [hms.1];rfl) ?_
 rw [e4]
 refine w_loadA rfl (hC1f.at s1.1) (by rw [s1.1];rfl) ?_
 rw [e91]
 repeat' (first|refine w_rf rfl (by assumption) (by rfl) (by rfl) (by rfl) ?_|refine w_opk rfl rfl ?_)
 rw [ew]
 refine w_callA [.agg mc,.agg c1,.int .i64 (.ofNat (k - 1))] rfl ((runB_ok hO.rn hO.rg hM (fun i hi=>hi) (hmE E17 (fun i=>i<h17.n)) t1f hBg (by show ((k - 1:Nat):Int)≤400000;omega) fun {h} hE=>ckx (E17.trans hE)).mono fun _ h18 ⟨c4,e,hT4,hE18⟩=>?_)
 subst e
 have s4:=hT4.shape
 refine w_alloc fun i4 h19 hC4 hi4 hE19=>?_
 refine w_store rfl rfl hC4 s4.1 s4.2 (by decide) (by simp) fun h20 hC4 hE20 hn20=>?_
 have X20:Ext h18 h20:=hE19.step hE20 fun q hq=>by simp at hq;exact .inr (by omega)
 replace hC4:Own h20 i4 c4:=by rw [← zero_over s4.1];exact hC4
 have E20:=(E17.trans hE18).trans X20
 have hA20:=(hA17.ext0 hE18).ext0 X20
 have hB20:=(hB17.ext0 hE18).ext0 X20
 have hC1g:=(hC1f.ext0 hE18).ext0 X20
 have hC3z:=(hC3y.ext0 hE18).ext0 X20
 have t1g:=((t1f.ext0 hE18).ext0 X20).mono (Z':=fun i=>i<h20.n) fun j _ hj=>hj
 have tXg:=((tXf.ext0 hE18).ext0 X20).mono (Z':=fun i=>i<h20.n) fun j _ hj=>hj
 replace rte:=(rte.ext0 hE18).ext0 X20
 replace hT4:=hT4.ext0 X20
 rw [show (Int.ofNat (k - 1)).toNat=k - 1 from rfl] at hT4
 generalize runT M (k - 1) T0=Y at *
 obtain ⟨uf,ue,us,mf,me,ms,ec4,_⟩:=hT4
 subst ec4
 clear hA17 hB17 hC1f hC3y t1f tXf hE19 hE20
 repeat' (first|refine w_seq ?_|refine w_reg ?_|refine w_e ?_|refine w_rf rfl (by assumption) (by rfl) (by rfl) (by rfl) ?_|refine w_len rfl (by assumption) ?_|refine w_opk rfl rfl ?_)
 have hel2:le.length≤400:=by have:st=min q.steps 400:=hst';omega
 refine w_count (fun j vs1 h=>Ext h20 h∧∃ b5 b6 b7 b9 b12 b13 b14 b17 b19 b20 b22,vs1=[.agg mc,.agg [.int .i64 (.ofNat r),sv,.str q.tag,av,.int .i64 q.self,.int .i64 q.next,.int .i64 q.steps],.bool false,.ptr iA 0 0 4,.ptr iB 0 0 7,b5,b6,b7,.ptr i1 0 0 9,b9,.ptr i2 0 0 9,.ptr i3 0 0 9,b12,b13,b14,.int .i64 (.ofNat j),.int .i64 (.ofNat le.length),b17,ve,b19,b20,.int .i64 (.ofNat (spawns (X.effs.take j))),b22,.ptr i4 0 0 9]) le.length ⟨ExtX.refl _ _,_,_,_,_,_,_,_,_,_,_,_,rfl⟩ ?_
 rintro j vs1 h hj ⟨hE,b5,b6,b7,b9,b12,b13,b14,b17,b19,b20,b22,rfl⟩
 have rte':=rte.ext0 hE
 have hB':=hB20.ext0 hE
 have hsl:spawns (X.effs.take j)≤j:=by
  unfold spawns
  refine Nat.le_trans (List.length_filter_le _ _) ?_
  rw [List.length_take];omega
 repeat' (first|refine w_seq ?_|refine w_reg ?_|refine w_e ?_|refine w_lssN rfl rfl (fun hc=>?_) (fun hc=>?_)|refine w_cond_t rfl ?_|refine w_cond_f rfl ?_|refine w_skip ?_|refine w_exit rfl ?_)
 ·have hj1:j<le.length:=by assumption
  have hj2:j<X.effs.length:=by omega
  obtain ⟨av2,la2,eq2,_⟩:=ae.get hj1 hj2
  have hsp:=hl0.sp j _ (List.getElem?_eq_getElem hj2)
  have hss:spawns (X.effs.take (j+1))=spawns (X.effs.take j)+(if 0≤X.effs[j].role then 1 else 0):=by
   rw [List.take_succ_eq_append_getElem hj2,spawns_app]
  have hS:=slot_at rte' hj1
  rw [eq2] at hS
  have hone:allOne [V.int .i64 X.effs[j].to,.int .i64 X.effs[j].role,.str X.effs[j].tag,av2]=true:=by
   have:=(ae.get hj1 hj2)
   obtain ⟨v3,l3,e3,r3,_⟩:=this
   have e3':=eq2.symm.trans e3
   simp only [List.cons.injEq,and_true] at e3'
   rw [e3'.2.2.2]
   simp only [allOne,r3.1.one]
   rfl
  generalize X.effs[j]=ef at *
  refine w_block ?_
  repeat' (first|refine w_seq ?_|refine w_reg ?_)
  refine w_iadrS rfl rfl rte' hj1 ?_
  refine w_loadA rfl hS rfl ?_
  refine w_alloc fun ix g1 hx hix gE1=>?_
  refine w_store rfl rfl hx rfl hone (by decide) (by simp) fun g2 hx gE2 gn2=>?_
  replace hx:Own g2 ix [.int .i64 ef.to,.int .i64 ef.role,.str ef.tag,av2]:=hx
  have GE:Ext h g2:=gE1.step gE2 fun q hq=>by simp at hq;exact .inr (by omega)
  have hB2:=hB'.ext0 GE
  clear gE1 gE2 hB'
  repeat' (first|refine w_seq ?_|refine w_reg ?_|refine w_e ?_|refine w_rf rfl (by assumption) (by rfl) (by rfl) (by rfl) ?_|refine w_opk rfl rfl ?_)
  by_cases hr0:0≤ef.role
  ·rw [show iNot (iLt ef.role (Int.ofNat 0))=true from by rw [iLt_eq,show decide (ef.role<Int.ofNat 0)=false from decide_eq_false (by show ¬ ef.role<0;omega)];rfl]
   rw [if_pos hr0] at hss
   have hto:=hsp hr0
   rw [hf.1] at hto
   repeat' (first|refine w_seq ?_|refine w_reg ?_|refine w_e ?_|refine w_rf rfl (by assumption) (by rfl) (by rfl) (by rfl) ?_|refine w_opk rfl rfl ?_|refine w_cond_t rfl ?_)
   rw [show iNot (iEq ef.to (wrapK IntKind.i64 (q.next.add (Int.ofNat (spawns (X.effs.take j))))))=false from by
    rw [wrapK_eq,hto,iEq_eq]
    show (!(_ == _))=false
    rw [show q.next.add (Int.ofNat (spawns (X.effs.take j)))=q.next+(spawns (X.effs.take j):Int) from rfl,beq_self_eq_true]
    rfl]
   repeat' (first|refine w_reg ?_|refine w_e ?_|refine w_addN rfl rfl (by omega) ?_|refine w_opk rfl rfl ?_|refine w_cond_f rfl ?_|refine w_skip ?_)
   exact ⟨hj1,hE.trans GE,_,_,_,_,_,_,_,_,_,_,_,by rw [hss]⟩
  ·rw [show iNot (iLt ef.role (Int.ofNat 0))=false from by rw [iLt_eq,show decide (ef.role<Int.ofNat 0)=true from decide_eq_true (by show ef.role<0;omega)];rfl]
   rw [if_neg hr0] at hss
   repeat' (first|refine w_reg ?_|refine w_e ?_|refine w_addN rfl rfl (by omega) ?_|refine w_opk rfl rfl ?_|refine w_cond_f rfl ?_|refine w_skip ?_)
   exact ⟨hj1,hE.trans GE,_,_,_,_,_,_,_,_,_,_,_,by rw [hss];rfl⟩
 have hjj:j=X.effs.length:=by omega
 rw [hjj,List.take_length] at hsl
 rw [hjj,List.take_length]
 have E:=E20.trans hE
 have hAh:=hA20.ext0 hE
 have hC1h:=hC1g.ext0 hE
 have hC3h:=hC3z.ext0 hE
 have hC4h:=hC4.ext0 hE
 have t1h:=(t1g.ext0 hE).mono (Z':=fun i=>i<h.n) fun j _ hj=>hj
 have tXh:=(tXg.ext0 hE).mono (Z':=fun i=>i<h.n) fun j _ hj=>hj
 clear hA20 hB20 hC1g hC3z hC4 t1g tXg rte rte'
 have rk:runT M X.used.toNat T0=X:=by rw [ku];exact kx k (Nat.le_refl _)
 have hXb:=hl0.bnd
 refine w_loadA rfl (hAh.at hms.1) (by rw [hms.1];rfl) ?_
 rw [e4]
 refine w_loadA rfl (hC1h.at s1.1) (by rw [s1.1];rfl) ?_
 rw [e91]
 repeat' (first|refine w_rf rfl (by assumption) (by rfl) (by rfl) (by rfl) ?_)
 refine w_loadA rfl (hC3h.at rfl) rfl ?_
 refine w_callA [.agg mc,.agg c1,.int .i64 X.used] rfl ((runB_ok hO.rn hO.rg hM (fun i hi=>hi) (hmE E (fun i=>i<h.n)) t1h hBg (by rw [ku];omega) fun {h'} hE'=>ckx (E.trans hE')).mono fun _ g1 ⟨c5,e,hT5,gE1⟩=>?_)
 subst e
 rw [rk] at hT5
 have hC3i:=hC3h.ext0 gE1
 refine w_chkA rfl rfl (hC3i.at rfl) (Nat.le_refl _) (V.beqL_refl _) ?_
 refine w_callA [.agg c5,.agg [vf,ve,.int .i64 X.self,.int .i64 X.next,.int .i64 X.used,.int .u8 X.over,.int .i64 X.trap,.int .i64 X.role,vs]] rfl ((same12W_ok hO.ws hT5 (tXh.ext0 gE1) hXb).mono fun _ g2 ⟨e,gE2⟩=>?_)
 subst e
 have G2:=gE1.trans gE2
 have E2b:=E.trans G2
 have hAi:=hAh.ext0 G2
 have hBi:=hB'.ext0 G2
 have hC1i:=hC1h.ext0 G2
 have hC3j:=hC3h.ext0 G2
 have hC4i:=hC4h.ext0 G2
 have t1i:=(t1h.ext0 G2).mono (Z':=fun i=>i<g2.n) fun j _ hj=>hj
 have tXi:=(tXh.ext0 G2).mono (Z':=fun i=>i<g2.n) fun j _ hj=>hj
 clear hAh hB' hC1h hC3h hC4h t1h tXh hC3i hT5
 have ew2:wrapK IntKind.i64 (X.used+Int.ofNat 1000)=Int.ofNat (k+1000):=by
  rw [wrapK_eq,ku,show (k:Int)+Int.ofNat 1000=Int.ofNat (k+1000) from rfl]
  exact wrap_i64_nat (by omega)
 repeat' (first|refine w_on rfl ?_|refine w_opk rfl rfl ?_)
 refine w_loadA rfl (hAi.at hms.1) (by rw [hms.1];rfl) ?_
 rw [e4]
 refine w_on rfl (w_loadA rfl (hC1i.at s1.1) (by rw [s1.1];rfl) ?_)
 rw [e91]
 repeat' (first|refine w_rfg rfl rfl (by assumption) (by rfl) (by rfl) (by rfl) (by rfl) ?_|refine w_on rfl ?_|refine w_opk rfl rfl ?_)
 rw [show wrapK IntKind.i64 (X.used.add (Int.ofNat 1000))=Int.ofNat (k+1000) from ew2]
 refine w_loadA rfl (hC3j.at rfl) rfl ?_
 refine w_on rfl (w_callA [.agg mc,.agg c1,.int .i64 (.ofNat (k+1000))] rfl ((runB_ok hO.rn hO.rg hM (fun i hi=>hi) (hmE E2b (fun i=>i<g2.n)) t1i hBg (by show ((k+1000:Nat):Int)≤400000;omega) fun {h'} hE'=>ckx (E2b.trans hE')).mono fun _ g3 ⟨c6,e,hT6,gE3⟩=>?_))
 subst e
 rw [show (Int.ofNat (k+1000)).toNat=k+1000 from rfl,kx (k+1000) (by omega)] at hT6
 have hC3k:=hC3j.ext0 gE3
 refine w_on rfl (w_chkA rfl rfl (hC3k.at rfl) (Nat.le_refl _) (V.beqL_refl _) ?_)
 refine w_on rfl (w_callA [.agg c6,.agg [vf,ve,.int .i64 X.self,.int .i64 X.next,.int .i64 X.used,.int .u8 X.over,.int .i64 X.trap,.int .i64 X.role,vs]] rfl ((same12W_ok hO.ws hT6 (tXi.ext0 gE3) hXb).mono fun _ g4 ⟨e,gE4⟩=>?_))
 subst e
 have G4:=gE3.trans gE4
 have hBk:=hBi.ext0 G4
 have hC3l:=hC3j.ext0 G4
 have hC4k:=hC4i.ext0 G4
 clear hAi hBi hC1i hC3j hC4i t1i tXi hC3k hT6
 have q1:iEq Y.trap (Int.ofNat 8)=true:=by rw [iEq_eq,ky8];rfl
 have q2:iEq Y.used (wrapK IntKind.i64 (X.used - Int.ofNat 1))=true:=by rw [ew,iEq_eq,kyu];exact beq_self_eq_true _
 have q3:iEq X.next (wrapK IntKind.i64 (q.next+Int.ofNat (spawns X.effs)))=true:=by
  rw [wrapK_eq,hl0.nx,hf.1,iEq_eq]
  exact beq_self_eq_true _
 repeat' (first|refine w_rfg rfl rfl (by assumption) (by rfl) (by rfl) (by rfl) (by rfl) ?_|refine w_on rfl ?_|refine w_opk rfl rfl ?_)
 rw [q1]
 repeat' (first|refine w_rfg rfl rfl (by assumption) (by rfl) (by rfl) (by rfl) (by rfl) ?_|refine w_on rfl ?_|refine w_opk rfl rfl ?_)
 rw [q2]
 repeat' (first|refine w_rfg rfl rfl (by assumption) (by rfl) (by rfl) (by rfl) (by rfl) ?_|refine w_on rfl ?_|refine w_opk rfl rfl ?_)
 rw [show iEq X.next (wrapK IntKind.i64 (q.next.add (Int.ofNat (spawns X.effs))))=true from q3]
 repeat' (first|refine w_on rfl ?_)
 refine w_callA [] rfl (hO.aw.mono fun _ _ ⟨e,_⟩=>?_)
 subst e
 repeat' (first|refine w_e ?_|refine w_opk rfl rfl ?_|refine w_ret ?_|refine w_rt rfl ?_)
 rfl
end AmT
