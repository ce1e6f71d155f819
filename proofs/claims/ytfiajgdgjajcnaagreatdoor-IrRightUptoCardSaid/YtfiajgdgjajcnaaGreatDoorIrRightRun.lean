/-
  The interpreter under the abstract machine, part IrRightRun. Conditions: those that each theorem states.
-/
import Derived.Test.YtfiajgdgjajcnaaGreatDoorIB
set_option linter.unusedSimpArgs false
set_option linter.unusedVariables false
namespace AmT
open Go Am
set_option maxRecDepth 100000
set_option maxHeartbeats 8000000
variable {O:CallF}
structure OffRt4 (O:CallF):Prop where
 ic:OffIc O
 gr:∀ a h,O 24 a h=none
 g4:∀ a h,O 31 a h=none
 pk:∀ a h,O 35 a h=none
 aw:∀ {h:Heap},WPc tab.get O 34 [] h (fun r h'=>r=.bool true∧Ext h h')
theorem irRight_ok (hO:OffRt4 O) (hL:∀ a h,O 8 a h=none) {mc fc:List V} {M:ModA} {F:FastA} {x0 x1:Int} {h0:Heap} (hm0:ModR (fun _=>False) h0 mc M) (ht:TyM M) (hf0:FastR (fun _=>False) h0 fc F) (htf:TyFa F) :
  WPc tab.get O 8 [.agg mc,.agg fc,.agg [.int .i64 x0,.int .i64 x1]] h0 (fun r _=>r=.bool true):=by
 have hms:=hm0.shape
 have hmE:∀ {h},Ext h0 h→∀ Z,ModR Z h mc M:=fun {h} hE Z=>hm0.ext hE (by simp) fun j hj _=>hj.elim
 have hfE:∀ {h},Ext h0 h→∀ Z,FastR Z h fc F:=fun {h} hE Z=>hf0.ext hE (by simp) fun j hj=>hj.elim
 have hff:=hf0
 obtain ⟨vc,ve,vn,le,rfl,s1,s2,s3,s4⟩:=hf0
 have hfs:allOne [V.int .i64 F.1,.int .i64 F.2.1,vc,ve,vn]=true:=by simp only [allOne,s1.1.one,s2.1.one,s4.1.one];rfl
 refine w_fn' (hL _ _) rfl rfl (by simp only [c8,initV,nth] <;> rfl) ?_
 refine w_seq (w_reg (w_box rfl hms.1 hms.2 fun iA h1 hA hiA hE1=>?_))
 refine w_box rfl rfl hfs fun iF h2 hF hiF hE2=>?_
 refine w_box rfl rfl rfl fun iX h3 hX hiX hE3=>?_
 have E3:=(hE1.trans hE2).trans hE3
 replace hA:Own h3 iA mc:=(hA.ext0 hE2).ext0 hE3
 replace hF:Own h3 iF [.int .i64 F.1,.int .i64 F.2.1,vc,ve,vn]:=hF.ext0 hE3
 replace hX:Own h3 iX [.int .i64 x0,.int .i64 x1]:=hX
 have e4:List.take 4 mc=mc:=List.take_of_length_le (by omega)
 repeat' (first|refine w_seq ?_|refine w_reg ?_|refine w_e ?_|refine w_opk rfl rfl ?_)
 refine w_loadA rfl (hA.at hms.1) (by rw [hms.1];rfl) ?_
 rw [e4]
 refine w_callA [.agg mc] rfl ((great_ok hO.gr ((hmE E3 (fun _=>False)).c ht)).mono fun _ h4 ⟨⟨b1,e⟩,hE4⟩=>?_)
 subst e
 have E4:=E3.trans hE4
 have hA4:=hA.ext0 hE4
 have hF4:=hF.ext0 hE4
 have hX4:=hX.ext0 hE4
 cases b1 with
 | true=>
  repeat' (first|refine w_seq ?_|refine w_reg ?_|refine w_e ?_|refine w_off rfl ?_|refine w_opk rfl rfl ?_|refine w_cond_t rfl ?_)
  refine w_callA [] rfl (hO.aw.mono fun _ _ ⟨e,_⟩=>?_)
  subst e
  repeat' (first|refine w_e ?_|refine w_opk rfl rfl ?_|refine w_ret ?_|refine w_rt rfl ?_)
  rfl
 | false=>
 repeat' (first|refine w_on rfl ?_|refine w_opk rfl rfl ?_)
 refine w_loadA rfl (hF4.at rfl) rfl ?_
 refine w_on rfl (w_callA [.agg [.int .i64 F.1,.int .i64 F.2.1,vc,ve,vn]] rfl ((fgreat_ok hO.g4 (hfE E4 (fun _=>False)) htf).mono fun _ h5 ⟨⟨b2,e⟩,hE5⟩=>?_))
 subst e
 have E5:=E4.trans hE5
 have hA5:=hA4.ext0 hE5
 have hF5:=hF4.ext0 hE5
 have hX5:=hX4.ext0 hE5
 clear hA hF hX hA4 hF4 hX4
 cases b2 with
 | true=>
  repeat' (first|refine w_seq ?_|refine w_reg ?_|refine w_e ?_|refine w_off rfl ?_|refine w_opk rfl rfl ?_|refine w_cond_t rfl ?_)
  refine w_callA [] rfl (hO.aw.mono fun _ _ ⟨e,_⟩=>?_)
  subst e
  repeat' (first|refine w_e ?_|refine w_opk rfl rfl ?_|refine w_ret ?_|refine w_rt rfl ?_)
  rfl
 | false=>
 repeat' (first|refine w_on rfl ?_|refine w_opk rfl rfl ?_)
 refine w_loadA rfl (hA5.at hms.1) (by rw [hms.1];rfl) ?_
 rw [e4]
 refine w_on rfl (w_callA [.agg mc] rfl ((check_ok hO.ic.toOffCk (hmE E5 (fun _=>False)) (fun i hi=>hi.elim) ht).mono fun _ h6 ⟨⟨e1,e,he⟩,hE6⟩=>?_))
 subst e
 have E6:=E5.trans hE6
 have hA6:=hA5.ext0 hE6
 have hF6:=hF5.ext0 hE6
 have hX6:=hX5.ext0 hE6
 clear hA5 hF5 hX5
 by_cases hMX:ModX M
 case neg=>
  have h1:iEq e1 (Int.ofNat 0)=false:=by rw [iEq_eq];exact beq_false_of_ne fun q=>hMX (he.1 q)
  repeat' (first|refine w_on rfl ?_|refine w_opk rfl rfl ?_)
  rw [h1]
  repeat' (first|refine w_seq ?_|refine w_reg ?_|refine w_e ?_|refine w_off rfl ?_|refine w_opk rfl rfl ?_|refine w_cond_t rfl ?_)
  refine w_callA [] rfl (hO.aw.mono fun _ _ ⟨e,_⟩=>?_)
  subst e
  repeat' (first|refine w_e ?_|refine w_opk rfl rfl ?_|refine w_ret ?_|refine w_rt rfl ?_)
  rfl
 case pos=>
 obtain rfl:=he.2 hMX
 repeat' (first|refine w_on rfl ?_|refine w_opk rfl rfl ?_)
 refine w_loadA rfl (hA6.at hms.1) (by rw [hms.1];rfl) ?_
 rw [e4]
 refine w_on rfl (w_loadA rfl (hF6.at rfl) rfl ?_)
 refine w_on rfl (w_callA [.agg mc,.agg [.int .i64 F.1,.int .i64 F.2.1,vc,ve,vn]] rfl ((irCheck_ok hO.ic (fun i hi=>hi.elim) (hmE E6 (fun _=>False)) ht hMX (hfE E6 (fun _=>False)) htf).mono fun _ h7 ⟨⟨e2,e,he2,hgood⟩,hE7⟩=>?_))
 subst e
 have E7:=E6.trans hE7
 have hA7:=hA6.ext0 hE7
 have hF7:=hF6.ext0 hE7
 have hX7:=hX6.ext0 hE7
 clear hA6 hF6 hX6
 by_cases h20:e2=0
 case neg=>
  have h1:iEq e2 (Int.ofNat 0)=false:=by rw [iEq_eq];exact beq_false_of_ne h20
  repeat' (first|refine w_e ?_|refine w_on rfl ?_|refine w_opk rfl rfl ?_)
  rw [h1]
  repeat' (first|refine w_seq ?_|refine w_reg ?_|refine w_cond_t rfl ?_)
  refine w_callA [] rfl (hO.aw.mono fun _ _ ⟨e,_⟩=>?_)
  subst e
  repeat' (first|refine w_e ?_|refine w_opk rfl rfl ?_|refine w_ret ?_|refine w_rt rfl ?_)
  rfl
 case pos=>
 subst h20
 obtain ⟨hc1,_⟩:=hgood rfl
 have n1:(F.2.2.1.map specC).length=F.2.2.1.length:=List.length_map ..
 have hcl:=htf.cl
 repeat' (first|refine w_seq ?_|refine w_reg ?_|refine w_e ?_|refine w_on rfl ?_|refine w_opk rfl rfl ?_|refine w_cond_f rfl ?_|refine w_skip ?_)
 refine w_loadA rfl (hF7.at rfl) rfl ?_
 refine w_alloc fun iG h8 hG hiG hE8=>?_
 refine w_store rfl rfl hG rfl hfs (by decide) (by simp) fun h9 hG9 hE9 hn9=>?_
 replace hG9:Own h9 iG [.int .i64 F.1,.int .i64 F.2.1,vc,ve,vn]:=hG9
 have X9:Ext h7 h9:=hE8.step hE9 fun q hq=>by simp at hq;exact .inr (by omega)
 have E9:=E7.trans X9
 have hA9:=hA7.ext0 X9
 have hF9:=hF7.ext0 X9
 have hX9:=hX7.ext0 X9
 have lA:=hA7.1
 have lF:=hF7.1
 have lX:=hX7.1
 clear hA7 hF7 hX7 hG hE8 hE9
 repeat' (first|refine w_seq ?_|refine w_reg ?_|refine w_e ?_)
 refine w_bslice [] rfl rfl rfl rfl (by simp) fun v0 h10 o10 f10=>?_
 have X10:Ext h9 h10:=f10.1.mono (by simp [slIds])
 have hF10:=hF9.ext0 X10
 repeat' (first|refine w_rf rfl (by assumption) (by rfl) (by rfl) (by rfl) ?_)
 refine w_app rfl rfl o10 (s1.1.ext0 (E9.trans X10)) (by simp;omega) fun cv h11 o11 f11=>?_
 have hv0:∀ j∈slIds v0,h9.n≤j:=fun j hj=>by
  rcases f10.2 j hj with q | q
  ·simp [slIds] at q
  ·exact q
 have X11:Ext h9 h11:=X10.step f11.1 fun j hj=>.inr (hv0 j hj)
 have hcv:∀ j∈slIds cv,h9.n≤j:=fun j hj=>by
  rcases f11.2 j hj with q | q
  ·exact hv0 j q
  ·have:=X10.1;omega
 rw [List.nil_append] at o11
 have hG11:=hG9.ext0 X11
 have ocv:=o11.rs.one
 have hGl:=hG9.1
 refine w_fadr rfl (hG11.at (hi:=5) rfl) rfl fun hGa=>?_
 refine w_store rfl rfl hG11 (by rw [V.cells1 ocv];rfl) (by rw [V.cells1 ocv];simp only [allOne,ocv]) (by decide) (by simp) fun h12 hG12 hE12 hn12=>?_
 rw [V.cells1 ocv] at hG12
 replace hG12:Own h12 iG [.int .i64 F.1,.int .i64 F.2.1,cv,ve,vn]:=hG12
 have o12:=o11.ext hE12 (fun j hj hm=>by have:=hcv j hj;simp at hm;omega)
 have X12:ExtX [iG] h9 h12:=(X11.mono (by simp)).trans hE12
 have hA12:=hA9.ext X12 (by simp;omega)
 have hF12:=hF9.ext X12 (by simp;omega)
 have hX12:=hX9.ext X12 (by simp;omega)
 have E12:Ext h0 h12:=E9.step X12 fun j hj=>by simp at hj;subst hj;exact .inr (by have:=E7.1;omega)
 clear hA9 hF9 hX9 hG9 hG11 hGa o10 o11 f10 f11 hF10
 repeat' (first|refine w_seq ?_|refine w_reg ?_|refine w_e ?_|refine w_rf rfl (by assumption) (by rfl) (by rfl) (by rfl) ?_|refine w_fl rfl (by assumption) (by rfl) (by rfl) (by rfl) ?_|refine w_opk rfl rfl ?_)
 have r12:=o12.rs
 have mE12:=E12.1
 refine w_len rfl r12 ?_
 refine w_callA [.int .i64 x0,.int .i64 (.ofNat (F.2.2.1.map specC).length)] rfl ((pick_ok hO.pk (n:=x0) (L:=(F.2.2.1.map specC).length) (by omega) (by omega)).mono fun _ h13 ⟨⟨k,e,hk⟩,eh⟩=>?_)
 subst e eh
 refine w_chk1 rfl rfl ((hG12.at (hi:=5) rfl).fadr (d:=2) (by simp)) (V.beq_refl _) ?_
 refine w_iadrS rfl rfl r12 hk ?_
 repeat' (first|refine w_seq ?_|refine w_reg ?_|refine w_e ?_|refine w_fl rfl (by assumption) (by rfl) (by rfl) (by rfl) ?_|refine w_opk rfl rfl ?_)
 refine w_callA [.int .i64 x1,.int .i64 (.ofNat 5)] rfl ((pick_ok hO.pk (n:=x1) (L:=5) (by decide) (by decide)).mono fun _ h14 ⟨⟨c,e,hc⟩,eh⟩=>?_)
 subst e eh
 have hk2:k<F.2.2.1.length:=by omega
 have hS:=slot_at r12 hk
 rw [List.getElem_map] at hS
 have hsp:=htf.sp _ (List.getElem_mem hk2)
 have hget:(F.2.2.1.map specC)[k]=specC F.2.2.1[k]:=List.getElem_map ..
 generalize hs0:F.2.2.1[k]=s at *
 refine w_e ?_
 have icv:∀ j∈slIds cv,h9.n≤j∧j≠iG:=fun j hj=>⟨hcv j hj,by have:=hcv j hj;omega⟩
 refine w_block_cut (fun vs h=>∃ b10 b12 b13 b14 b15 b16 s',vs=[.agg mc,.agg [.int .i64 F.1,.int .i64 F.2.1,vc,ve,vn],.agg [.int .i64 x0,.int .i64 x1],.bool false,.ptr iA 0 0 4,.ptr iF 0 0 5,.bool (iNot (iEq 0 (Int.ofNat 0))),.ptr iG 0 0 5,.ptr iX 0 0 2,.int .i64 (.ofNat c),b10,slotP cv k,b12,b13,b14,b15,b16]∧Ow h 7 cv ((F.2.2.1.set k s').map specC)∧ExtX (slIds cv) h14 h∧(0≤s'.1∧s'.1≤255)∧¬ MayS M (F.1,F.2.1,F.2.2.1.set k s',F.2.2.2.1,F.2.2.2.2) s') ?_ ?_
 ·obtain ⟨so,sa,sb,sc,sl,sw,se⟩:=s
  replace hsp:0≤so∧so≤255:=hsp
  obtain ⟨on,rfl⟩:∃ n:Nat,so=(n:Int):=⟨so.toNat,(Int.toNat_of_nonneg hsp.1).symm⟩
  have hset:∀ {h':Heap} {d:Nat} {x:List V} {s':SpecA},Ow h' 7 cv ((F.2.2.1.map specC).set k (splice (F.2.2.1.map specC)[k] d x))→splice (specC ((on:Int),sa,sb,sc,sl,sw,se)) d x=specC s'→Ow h' 7 cv ((F.2.2.1.set k s').map specC):=fun o e=>by
   rw [hget,e,set_spec] at o;exact o
  have nG:∀ s',(F.2.2.1.set k s').length=F.2.2.1.length:=fun _=>List.length_set ..
  have hkG:∀ s',k<((F.2.2.1.set k s').map specC).length:=fun s'=>by rw [List.length_map,nG];exact hk2
  have hgG:∀ s',((F.2.2.1.set k s').map specC)[k]'(hkG s')=specC s':=fun s'=>by rw [List.getElem_map,List.getElem_set_self]
  have hat:∀ {h':Heap} {s':SpecA},Ow h' 7 cv ((F.2.2.1.set k s').map specC)→At h' (slotP cv k) (specC s'):=fun {h' s'} o=>by
   have:=slot_at o.rs (hkG s')
   rw [hgG] at this;exact this
  have hset2:∀ {h':Heap} {d:Nat} {x:List V} {s1 s2:SpecA},Ow h' 7 cv (((F.2.2.1.set k s1).map specC).set k (splice (((F.2.2.1.set k s1).map specC)[k]'(hkG s1)) d x))→splice (specC s1) d x=specC s2→Ow h' 7 cv ((F.2.2.1.set k s2).map specC):=fun o e=>by
   rw [hgG,e,set_spec,List.set_set] at o;exact o
  have hmm:=hmE E12 (fun _=>False)
  obtain ⟨cs,ts,fns,rs,lc,lfn,lr,rfl,r1,v1,r2,r3,a3,r4,a4⟩:=hmm
  have q2:=r2.1
  have q1:=s1.1.ext0 E12
  have q3:=s2.1.ext0 E12
  have n2:(M.tags.map tagC).length=M.tags.length:=List.length_map ..
  have n3:=s3.1
  repeat' (first|refine w_seq ?_|refine w_reg ?_|refine w_e ?_|refine w_rf rfl (by assumption) (by rfl) (by rfl) (by rfl) ?_|refine w_len rfl (by assumption) ?_|refine w_eqlN rfl rfl (fun hc=>?_) (fun hc=>?_)|refine w_opk rfl rfl ?_|refine w_cond_t rfl ?_|refine w_cond_f rfl ?_)
  ·refine w_nilck rfl hS ?_
   refine w_fadr rfl hS rfl fun _=>?_
   refine w_storeS rfl rfl o12 hk rfl (by decide) rfl fun h' o' hE' _=>?_
   repeat' (first|refine w_e ?_)
   exact ⟨_,_,_,_,_,_,(23,sa,sb,sc,sl,sw,se),rfl,hset o' rfl,hE',⟨(by decide:(0:Int)≤23),(by decide:(23:Int)≤255)⟩,bad_op (s:=((on:Int),sa,sb,sc,sl,sw,se))⟩
  ·refine w_nilck rfl hS ?_
   refine w_fadr rfl hS rfl fun _=>?_
   refine w_storeS rfl rfl o12 hk rfl (by decide) rfl fun h' o' hE' _=>?_
   repeat' (first|refine w_e ?_)
   exact ⟨_,_,_,_,_,_,((on:Int),sa,sb,sc,-1,sw,se),rfl,hset o' rfl,hE',hsp,bad_lead⟩
  ·refine w_nilck rfl hS ?_
   refine w_fadr rfl hS rfl fun _=>?_
   refine w_storeS rfl rfl o12 hk rfl (by decide) rfl fun h' o' hE' _=>?_
   repeat' (first|refine w_e ?_)
   exact ⟨_,_,_,_,_,_,((on:Int),sa,sb,sc,sl,2,se),rfl,hset o' rfl,hE',hsp,bad_own⟩
  ·refine w_mxI rfl rfl fun a k1 k2 k3 k4=>?_
   replace k2:((F.2.2.1.map specC).length:Int)≤a:=k2
   replace k3:((M.tags.map tagC).length:Int)≤a:=k3
   refine w_nilck rfl hS ?_
   refine w_fadr rfl hS rfl fun _=>?_
   refine w_storeS rfl rfl o12 hk rfl (by decide) rfl fun h' o' hE' _=>?_
   have oo:=hset (s':=((on:Int),a,sb,sc,sl,sw,se)) o' rfl
   have hA:=hat oo
   repeat' (first|refine w_seq ?_|refine w_reg ?_|refine w_e ?_|refine w_opk rfl rfl ?_)
   refine w_nilck rfl hA ?_
   refine w_fadr rfl hA rfl fun hA1=>?_
   refine w_load1 rfl hA1 rfl ?_
   repeat' (first|refine w_reg ?_|refine w_e ?_|refine w_off rfl ?_|refine w_on rfl ?_|refine w_eqlN rfl rfl (fun hc=>?_) (fun hc=>?_)|refine w_opk rfl rfl ?_|refine w_cond_t rfl ?_)
   ·refine w_nilck rfl hA ?_
    refine w_fadr rfl hA rfl fun _=>?_
    refine w_storeS rfl rfl oo (hkG _) rfl (by decide) rfl fun h2 o2 hE2 _=>?_
    repeat' (first|refine w_e ?_)
    exact ⟨_,_,_,_,_,_,((on:Int),1,sb,sc,sl,sw,se),rfl,hset2 o2 rfl,hE'.trans hE2,hsp,bad_a (s:=((on:Int),sa,sb,sc,sl,sw,se)) hsp (fun _=>rfl) (fun q=>absurd (show (on:Int)=21∨(on:Int)=22 by omega) q)⟩
   refine w_nilck rfl hA ?_
   refine w_on rfl (w_fadr rfl hA rfl fun hA1=>?_)
   refine w_on rfl (w_load1 rfl hA1 rfl ?_)
   repeat' (first|refine w_reg ?_|refine w_e ?_|refine w_on rfl ?_|refine w_eqlN rfl rfl (fun hc=>?_) (fun hc=>?_)|refine w_opk rfl rfl ?_|refine w_cond_t rfl ?_|refine w_cond_f rfl ?_|refine w_skip ?_)
   ·refine w_nilck rfl hA ?_
    refine w_fadr rfl hA rfl fun _=>?_
    refine w_storeS rfl rfl oo (hkG _) rfl (by decide) rfl fun h2 o2 hE2 _=>?_
    repeat' (first|refine w_e ?_)
    exact ⟨_,_,_,_,_,_,((on:Int),1,sb,sc,sl,sw,se),rfl,hset2 o2 rfl,hE'.trans hE2,hsp,bad_a (s:=((on:Int),sa,sb,sc,sl,sw,se)) hsp (fun _=>rfl) (fun q=>absurd (show (on:Int)=21∨(on:Int)=22 by omega) q)⟩
   exact ⟨_,_,_,_,_,_,((on:Int),a,sb,sc,sl,sw,se),rfl,oo,hE',hsp,bad_a (s:=((on:Int),sa,sb,sc,sl,sw,se)) hsp (fun q=>by
    have q':(on:Int)=21∨(on:Int)=22:=q
    omega) (fun _=>⟨k1,by show ((F.2.2.1.set k _).length:Int)≤a;rw [nG];omega,by omega⟩)⟩
  ·refine w_nilck rfl hS ?_
   refine w_fadr rfl hS rfl fun _=>?_
   refine w_storeS rfl rfl o12 hk rfl (by decide) rfl fun h' o' hE' _=>?_
   have oo:=hset (s':=((on:Int),sa,sb,sc,sl,sw,.ofNat le.length)) o' rfl
   have hA:=hat oo
   repeat' (first|refine w_seq ?_|refine w_reg ?_|refine w_e ?_|refine w_opk rfl rfl ?_)
   refine w_nilck rfl hA ?_
   refine w_fadr rfl hA rfl fun hA1=>?_
   refine w_load1 rfl hA1 rfl ?_
   repeat' (first|refine w_reg ?_|refine w_e ?_|refine w_off rfl ?_|refine w_on rfl ?_|refine w_eqlN rfl rfl (fun hc=>?_) (fun hc=>?_)|refine w_opk rfl rfl ?_|refine w_cond_t rfl ?_)
   ·refine w_nilck rfl hA ?_
    refine w_fadr rfl hA rfl fun _=>?_
    refine w_storeS rfl rfl oo (hkG _) rfl (by decide) rfl fun h2 o2 hE2 _=>?_
    repeat' (first|refine w_e ?_)
    exact ⟨_,_,_,_,_,_,((on:Int),sa,sb,sc,sl,sw,0),rfl,hset2 o2 rfl,hE'.trans hE2,hsp,bad_e (s:=((on:Int),sa,sb,sc,sl,sw,se)) hsp (fun _=>rfl) (fun q=>absurd (show (on:Int)=1∨(on:Int)=11∨(on:Int)=12∨(on:Int)=2∨(on:Int)=3∨(on:Int)=17∨(on:Int)=21 by omega) q)⟩
   refine w_nilck rfl hA ?_
   refine w_on rfl (w_fadr rfl hA rfl fun hA1=>?_)
   refine w_on rfl (w_load1 rfl hA1 rfl ?_)
   repeat' (first|refine w_reg ?_|refine w_e ?_|refine w_off rfl ?_|refine w_on rfl ?_|refine w_eqlN rfl rfl (fun hc=>?_) (fun hc=>?_)|refine w_opk rfl rfl ?_|refine w_cond_t rfl ?_)
   ·refine w_nilck rfl hA ?_
    refine w_fadr rfl hA rfl fun _=>?_
    refine w_storeS rfl rfl oo (hkG _) rfl (by decide) rfl fun h2 o2 hE2 _=>?_
    repeat' (first|refine w_e ?_)
    exact ⟨_,_,_,_,_,_,((on:Int),sa,sb,sc,sl,sw,0),rfl,hset2 o2 rfl,hE'.trans hE2,hsp,bad_e (s:=((on:Int),sa,sb,sc,sl,sw,se)) hsp (fun _=>rfl) (fun q=>absurd (show (on:Int)=1∨(on:Int)=11∨(on:Int)=12∨(on:Int)=2∨(on:Int)=3∨(on:Int)=17∨(on:Int)=21 by omega) q)⟩
   refine w_nilck rfl hA ?_
   refine w_on rfl (w_fadr rfl hA rfl fun hA1=>?_)
   refine w_on rfl (w_load1 rfl hA1 rfl ?_)
   repeat' (first|refine w_reg ?_|refine w_e ?_|refine w_off rfl ?_|refine w_on rfl ?_|refine w_eqlN rfl rfl (fun hc=>?_) (fun hc=>?_)|refine w_opk rfl rfl ?_|refine w_cond_t rfl ?_)
   ·refine w_nilck rfl hA ?_
    refine w_fadr rfl hA rfl fun _=>?_
    refine w_storeS rfl rfl oo (hkG _) rfl (by decide) rfl fun h2 o2 hE2 _=>?_
    repeat' (first|refine w_e ?_)
    exact ⟨_,_,_,_,_,_,((on:Int),sa,sb,sc,sl,sw,0),rfl,hset2 o2 rfl,hE'.trans hE2,hsp,bad_e (s:=((on:Int),sa,sb,sc,sl,sw,se)) hsp (fun _=>rfl) (fun q=>absurd (show (on:Int)=1∨(on:Int)=11∨(on:Int)=12∨(on:Int)=2∨(on:Int)=3∨(on:Int)=17∨(on:Int)=21 by omega) q)⟩
   refine w_nilck rfl hA ?_
   refine w_on rfl (w_fadr rfl hA rfl fun hA1=>?_)
   refine w_on rfl (w_load1 rfl hA1 rfl ?_)
   repeat' (first|refine w_reg ?_|refine w_e ?_|refine w_off rfl ?_|refine w_on rfl ?_|refine w_eqlN rfl rfl (fun hc=>?_) (fun hc=>?_)|refine w_opk rfl rfl ?_|refine w_cond_t rfl ?_)
   ·refine w_nilck rfl hA ?_
    refine w_fadr rfl hA rfl fun _=>?_
    refine w_storeS rfl rfl oo (hkG _) rfl (by decide) rfl fun h2 o2 hE2 _=>?_
    repeat' (first|refine w_e ?_)
    exact ⟨_,_,_,_,_,_,((on:Int),sa,sb,sc,sl,sw,0),rfl,hset2 o2 rfl,hE'.trans hE2,hsp,bad_e (s:=((on:Int),sa,sb,sc,sl,sw,se)) hsp (fun _=>rfl) (fun q=>absurd (show (on:Int)=1∨(on:Int)=11∨(on:Int)=12∨(on:Int)=2∨(on:Int)=3∨(on:Int)=17∨(on:Int)=21 by omega) q)⟩
   refine w_nilck rfl hA ?_
   refine w_on rfl (w_fadr rfl hA rfl fun hA1=>?_)
   refine w_on rfl (w_load1 rfl hA1 rfl ?_)
   repeat' (first|refine w_reg ?_|refine w_e ?_|refine w_off rfl ?_|refine w_on rfl ?_|refine w_eqlN rfl rfl (fun hc=>?_) (fun hc=>?_)|refine w_opk rfl rfl ?_|refine w_cond_t rfl ?_)
   ·refine w_nilck rfl hA ?_
    refine w_fadr rfl hA rfl fun _=>?_
    refine w_storeS rfl rfl oo (hkG _) rfl (by decide) rfl fun h2 o2 hE2 _=>?_
    repeat' (first|refine w_e ?_)
    exact ⟨_,_,_,_,_,_,((on:Int),sa,sb,sc,sl,sw,0),rfl,hset2 o2 rfl,hE'.trans hE2,hsp,bad_e (s:=((on:Int),sa,sb,sc,sl,sw,se)) hsp (fun _=>rfl) (fun q=>absurd (show (on:Int)=1∨(on:Int)=11∨(on:Int)=12∨(on:Int)=2∨(on:Int)=3∨(on:Int)=17∨(on:Int)=21 by omega) q)⟩
   refine w_nilck rfl hA ?_
   refine w_on rfl (w_fadr rfl hA rfl fun hA1=>?_)
   refine w_on rfl (w_load1 rfl hA1 rfl ?_)
   repeat' (first|refine w_reg ?_|refine w_e ?_|refine w_off rfl ?_|refine w_on rfl ?_|refine w_eqlN rfl rfl (fun hc=>?_) (fun hc=>?_)|refine w_opk rfl rfl ?_|refine w_cond_t rfl ?_)
   ·refine w_nilck rfl hA ?_
    refine w_fadr rfl hA rfl fun _=>?_
    refine w_storeS rfl rfl oo (hkG _) rfl (by decide) rfl fun h2 o2 hE2 _=>?_
    repeat' (first|refine w_e ?_)
    exact ⟨_,_,_,_,_,_,((on:Int),sa,sb,sc,sl,sw,0),rfl,hset2 o2 rfl,hE'.trans hE2,hsp,bad_e (s:=((on:Int),sa,sb,sc,sl,sw,se)) hsp (fun _=>rfl) (fun q=>absurd (show (on:Int)=1∨(on:Int)=11∨(on:Int)=12∨(on:Int)=2∨(on:Int)=3∨(on:Int)=17∨(on:Int)=21 by omega) q)⟩
   refine w_nilck rfl hA ?_
   refine w_on rfl (w_fadr rfl hA rfl fun hA1=>?_)
   refine w_on rfl (w_load1 rfl hA1 rfl ?_)
   repeat' (first|refine w_reg ?_|refine w_e ?_|refine w_on rfl ?_|refine w_eqlN rfl rfl (fun hc=>?_) (fun hc=>?_)|refine w_opk rfl rfl ?_|refine w_cond_t rfl ?_|refine w_cond_f rfl ?_|refine w_skip ?_)
   ·refine w_nilck rfl hA ?_
    refine w_fadr rfl hA rfl fun _=>?_
    refine w_storeS rfl rfl oo (hkG _) rfl (by decide) rfl fun h2 o2 hE2 _=>?_
    repeat' (first|refine w_e ?_)
    exact ⟨_,_,_,_,_,_,((on:Int),sa,sb,sc,sl,sw,0),rfl,hset2 o2 rfl,hE'.trans hE2,hsp,bad_e (s:=((on:Int),sa,sb,sc,sl,sw,se)) hsp (fun _=>rfl) (fun q=>absurd (show (on:Int)=1∨(on:Int)=11∨(on:Int)=12∨(on:Int)=2∨(on:Int)=3∨(on:Int)=17∨(on:Int)=21 by omega) q)⟩
   exact ⟨_,_,_,_,_,_,((on:Int),sa,sb,sc,sl,sw,.ofNat le.length),rfl,oo,hE',hsp,bad_e (s:=((on:Int),sa,sb,sc,sl,sw,se)) hsp (fun q=>by
    have q':(on:Int)=1∨(on:Int)=11∨(on:Int)=12∨(on:Int)=2∨(on:Int)=3∨(on:Int)=17∨(on:Int)=21:=q
    omega) (fun _=>by show (le.length:Int)=(F.2.2.2.1.length:Int);omega)⟩
 ·rintro vs h ⟨b10,b12,b13,b14,b15,b16,s',rfl,oG,eG,hs',hbad⟩
  have x9:=X9.1
  have hAh:=hA12.ext eG (fun q=>by have:=(icv _ q).1;omega)
  have hGh:=hG12.ext eG (fun q=>(icv _ q).2 rfl)
  have Eh:Ext h0 h:=E12.step eG fun j hj=>.inr (by have:=(icv j hj).1;have:=E9.1;omega)
  obtain ⟨vc1,ve1,vn1,le1,e,t1,t2,t3,t4⟩:=hfE Eh (fun i=>i<h.n)
  cases e
  have htG:TyFa (F.1,F.2.1,F.2.2.1.set k s',F.2.2.2.1,F.2.2.2.2):=⟨by show (F.2.2.1.set k s').length≤_;rw [List.length_set];exact htf.cl,htf.el,htf.nl,fun t ht=>by
   rcases List.mem_or_eq_of_mem_set ht with q | rfl
   ·exact htf.sp t q
   ·exact hs',htf.bl⟩
  repeat' (first|refine w_seq ?_|refine w_reg ?_)
  refine w_loadA rfl (hAh.at hms.1) (by rw [hms.1];rfl) ?_
  rw [e4]
  refine w_loadA rfl (hGh.at rfl) rfl ?_
  refine w_callA [.agg mc,.agg [.int .i64 F.1,.int .i64 F.2.1,cv,ve,vn]] rfl ((irCheck_ok hO.ic (Z:=fun i=>i<h.n) (fun i hi=>hi) (hmE Eh _) ht hMX (F:=(F.1,F.2.1,F.2.2.1.set k s',F.2.2.2.1,F.2.2.2.2)) ⟨cv,ve,vn,le1,rfl,⟨oG.rs,fun j hj=>oG.rs.lt j hj⟩,t2,t3,t4⟩ htG).mono fun _ h7' ⟨⟨e2,e,he2,hgood⟩,hE7'⟩=>?_)
  subst e
  rcases he2 with rfl | rfl
  ·exact absurd ((hgood rfl).2 s' (List.mem_set hk2 s')) hbad
  ·repeat' (first|refine w_on rfl ?_|refine w_opk rfl rfl ?_)
   refine w_callA [] rfl (hO.aw.mono fun _ _ ⟨e,_⟩=>?_)
   subst e
   repeat' (first|refine w_e ?_|refine w_opk rfl rfl ?_|refine w_ret ?_|refine w_rt rfl ?_)
   rfl
end AmT
