/-
  The interpreter under the abstract machine, part IA. Conditions: those that each theorem states.
-/
import Derived.Test.YtfiajgdgjajcnaaGreatDoorW
set_option linter.unusedSimpArgs false
set_option linter.unusedVariables false
namespace AmT
open Go Am
structure OffVals (O:CallF):Prop where
 ord:∀ a h,O 251 a h=none
 cmp:∀ a h,O 199 a h=none
 cmp2:∀ a h,O 131 a h=none
 sm:∀ a h,O 63 a h=none
 sv:∀ a h,O 19 a h=none
end AmT
namespace AmT
open Go Am
set_option maxRecDepth 100000
set_option maxHeartbeats 4000000
variable {O:CallF}
structure OffWV (O:CallF):Prop extends OffVals O where
 se:∀ a h,O 20 a h=none
theorem ordW_ok (hO:OffVals O) {h0:Heap} {a:Int} : WPc tab.get O 251 [.int .i64 a,.int .i64 a] h0 (fun v h'=>v=.int .i64 0∧h'=h0):=by
 refine w_fn' (hO.ord _ _) rfl rfl (by simp only [c251,initV,nth] <;> rfl) ?_
 repeat' (first|refine w_seq ?_|refine w_reg ?_|refine w_e ?_|refine w_lss rfl rfl (fun hc=>?_) (fun hc=>?_)|refine w_gtr rfl rfl (fun hc=>?_) (fun hc=>?_)|refine w_opk rfl rfl ?_|refine w_cond_t rfl ?_|refine w_cond_f rfl ?_|refine w_skip ?_|refine w_ret ?_|refine w_rt rfl ?_)
 ·exact absurd hc (by omega)
 ·exact absurd hc (by omega)
 ·exact ⟨rfl,rfl⟩
theorem compW_ok (hO:OffVals O) {Z Z':Nat→Prop} : ∀ (m:Nat) (a:Val) (c d:List V) (lv:Int) (h0:Heap),sizeOf a<m→VaR Z h0 a c→VaR Z' h0 a d→BndV a→WPc tab.get O 199 [.agg c,.agg d,.int .i64 lv] h0 (fun v h'=>v=.int .i64 0∧Ext h0 h')
 | 0,a,_,_,_,_,hm,_,_,_=>absurd hm (Nat.not_lt_zero _)
 | m+1,.mk k x s l,c,d,lv,h0,hm,ha,hb,hbd=>by
  have hs:=ha.shape
  have hs':=hb.shape
  unfold VaR at ha hb
  unfold BndV at hbd
  obtain ⟨v,lc,e,rv,va⟩:=ha
  obtain ⟨w,ld,e',rw_,vb⟩:=hb
  obtain ⟨bs,bes,bl⟩:=hbd
  have hlc:=va.len
  have hld:=vb.len
  refine w_fn' (hO.cmp _ _) rfl rfl (by simp only [c199,initV,nth] <;> rfl) ?_
  refine w_seq (w_reg (w_box rfl hs.1 hs.2 fun iA h1 hA hiA hE1=>?_))
  refine w_box rfl hs'.1 hs'.2 fun iB h2 hB hiB hE2=>?_
  have E2:=hE1.trans hE2
  replace hA:=hA.ext0 hE2
  have r3:=rv.1.ext0 E2
  have r4:=rw_.1.ext0 E2
  replace va:=va.ext0 E2
  replace vb:=vb.ext0 E2
  have hbl:lc.length≤2097152:=by omega
  have hel:ld.length=lc.length:=by omega
  clear rv rw_
  subst e e'
  repeat' (first|refine w_seq ?_|refine w_reg ?_|refine w_e ?_|refine w_rf rfl (by assumption) (by rfl) (by rfl) (by rfl) ?_|refine w_opk rfl rfl ?_)
  refine w_call rfl ((ordW_ok hO).mono fun v' h3 ⟨e1,e2⟩=>?_)
  subst e1 e2
  repeat' (first|refine w_seq ?_|refine w_reg ?_|refine w_e ?_|refine w_off rfl ?_|refine w_rf rfl (by assumption) (by rfl) (by rfl) (by rfl) ?_|refine w_on rfl ?_|refine w_neqN rfl rfl (fun hc=>?_) (fun hc=>?_)|refine w_lss rfl rfl (fun hc=>?_) (fun hc=>?_)|refine w_opk rfl rfl ?_|refine w_cond_t rfl ?_|refine w_cond_f rfl ?_|refine w_skip ?_|refine w_ret ?_|refine w_rt rfl ?_)
  ·exact ⟨rfl,E2⟩
  ·exact ⟨rfl,E2⟩
  refine w_block ?_
  repeat' (first|refine w_seq ?_|refine w_reg ?_|refine w_e ?_|refine w_rf rfl (by assumption) (by rfl) (by rfl) (by rfl) ?_|refine w_len rfl (by assumption) ?_|refine w_eql rfl rfl (fun hc=>?_) (fun hc=>?_)|refine w_opk rfl rfl ?_|refine w_cond_t rfl ?_|refine w_cond_f rfl ?_|refine w_skip ?_|refine w_ret ?_|refine w_rt rfl ?_)
  ·refine w_call rfl ((ordW_ok hO).mono fun v' h4 ⟨e1,e2⟩=>?_)
   subst e1 e2
   repeat' (first|refine w_e ?_|refine w_opk rfl rfl ?_|refine w_ret ?_|refine w_rt rfl ?_)
   exact ⟨rfl,E2⟩
  ·refine w_call rfl ((ordW_ok hO).mono fun v' h4 ⟨e1,e2⟩=>?_)
   subst e1 e2
   repeat' (first|refine w_e ?_|refine w_opk rfl rfl ?_|refine w_ret ?_|refine w_rt rfl ?_)
   exact ⟨rfl,E2⟩
  ·refine w_call rfl ((ordW_ok hO).mono fun v' h4 ⟨e1,e2⟩=>?_)
   subst e1 e2
   repeat' (first|refine w_e ?_|refine w_opk rfl rfl ?_|refine w_ret ?_|refine w_rt rfl ?_)
   exact ⟨rfl,E2⟩
  ·refine w_count (fun j vs h=>h=h3∧∃ b12 b13,vs=[.agg [.int .u8 k,.int .i64 x,.str s,v],.agg [.int .u8 k,.int .i64 x,.str s,w],.int .i64 lv,.int .i64 (.ofNat 0),.ptr iA 0 0 4,.ptr iB 0 0 4,.int .i64 0,.bool false,.int .u8 k,.bool false,.bool true,.int .i64 (.ofNat j),b12,b13,.any,.any,.any,.any]) s.length ⟨rfl,_,_,rfl⟩ ?_
   rintro j vs h hj ⟨rfl,b12,b13,rfl⟩
   repeat' (first|refine w_seq ?_|refine w_reg ?_|refine w_e ?_|refine w_off rfl ?_|refine w_rf rfl (by assumption) (by rfl) (by rfl) (by rfl) ?_|refine w_rfg rfl rfl (by assumption) (by rfl) (by rfl) (by rfl) (by rfl) ?_|refine w_on rfl ?_|refine w_lssN rfl rfl (fun hc=>?_) (fun hc=>?_)|refine w_opk rfl rfl ?_|refine w_cond_t rfl ?_|refine w_cond_f rfl ?_|refine w_skip ?_|refine w_exit rfl ?_)
   ·refine w_block ?_
    repeat' (first|refine w_seq ?_|refine w_reg ?_|refine w_rf rfl (by assumption) (by rfl) (by rfl) (by rfl) ?_|refine w_opk rfl rfl ?_)
    have hjs:j<s.length:=by assumption
    refine w_idxS rfl rfl hjs ?_
    repeat' (first|refine w_rf rfl (by assumption) (by rfl) (by rfl) (by rfl) ?_|refine w_opk rfl rfl ?_)
    refine w_idxS rfl rfl hjs ?_
    repeat' (first|refine w_seq ?_|refine w_reg ?_|refine w_e ?_|refine w_rf rfl (by assumption) (by rfl) (by rfl) (by rfl) ?_|refine w_neqN rfl rfl (fun hc=>?_) (fun hc=>?_)|refine w_addN rfl rfl (by omega) ?_|refine w_opk rfl rfl ?_|refine w_cond_t rfl ?_|refine w_cond_f rfl ?_|refine w_skip ?_)
    ·exact absurd rfl hc
    exact ⟨hjs,rfl,_,_,rfl⟩
   ·exact absurd ‹j<s.length› (by omega)
   ·refine w_call rfl ((ordW_ok hO).mono fun v' h4 ⟨e1,e2⟩=>?_)
    subst e1 e2
    repeat' (first|refine w_e ?_|refine w_opk rfl rfl ?_|refine w_ret ?_|refine w_rt rfl ?_)
    exact ⟨rfl,E2⟩
  ·skip
   rw [hel]
   refine w_call rfl ((ordW_ok hO).mono fun v' h4 ⟨e1,e2⟩=>?_)
   subst e1 e2
   repeat' (first|refine w_seq ?_|refine w_reg ?_|refine w_e ?_|refine w_opk rfl rfl ?_)
   refine w_count (fun j vs h=>Ext h4 h∧∃ b17,vs=[.agg [.int .u8 k,.int .i64 x,.str s,v],.agg [.int .u8 k,.int .i64 x,.str s,w],.int .i64 lv,.int .i64 (.ofNat 0),.ptr iA 0 0 4,.ptr iB 0 0 4,.int .i64 0,.bool false,.int .u8 k,.bool false,.bool false,.any,.any,.any,.bool true,.int .i64 0,.int .i64 (.ofNat j),b17]) lc.length ⟨ExtX.refl _ _,_,rfl⟩ ?_
   rintro j vs h hj ⟨hE,b17,rfl⟩
   have hA':=hA.ext0 hE
   have hB':=hB.ext0 hE
   have r':=r3.ext0 hE
   have r'':=r4.ext0 hE
   repeat' (first|refine w_seq ?_|refine w_reg ?_|refine w_e ?_|refine w_off rfl ?_|refine w_rfg rfl rfl (by assumption) (by rfl) (by rfl) (by rfl) (by rfl) ?_|refine w_on rfl ?_|refine w_len rfl (by assumption) ?_|refine w_lssN rfl rfl (fun hc=>?_) (fun hc=>?_)|refine w_eqlN rfl rfl (fun hc=>?_) (fun hc=>?_)|refine w_opk rfl rfl ?_|refine w_cond_t rfl ?_|refine w_cond_f rfl ?_|refine w_skip ?_|refine w_exit rfl ?_|refine w_ret ?_|refine w_rt rfl ?_)
   ·have hje:j<lc.length:=by assumption
    have hje2:j<ld.length:=by omega
    have hjl:j<l.length:=by omega
    have ka:=(va.get hjl hje).ext0 hE
    have kb:=(vb.get hjl hje2).ext0 hE
    have hsh:=ka.shape
    have hsh2:=kb.shape
    have hsz:=List.sizeOf_lt_of_mem (List.getElem_mem hjl)
    refine w_block ?_
    repeat' (first|refine w_reg ?_|refine w_rf rfl (by assumption) (by rfl) (by rfl) (by rfl) ?_|refine w_opk rfl rfl ?_)
    refine w_iadrS rfl rfl r' hje ?_
    refine w_loadA rfl (slot_at r' hje) (by rw [hsh.1];rfl) ?_
    repeat' (first|refine w_rf rfl (by assumption) (by rfl) (by rfl) (by rfl) ?_|refine w_opk rfl rfl ?_)
    refine w_iadrS rfl rfl r'' hje2 ?_
    refine w_loadA rfl (slot_at r'' hje2) (by rw [hsh2.1];rfl) ?_
    repeat' (first|refine w_opk rfl rfl ?_)
    rw [show List.take 4 lc[j]=lc[j] from List.take_of_length_le (by omega),show List.take 4 ld[j]=ld[j] from List.take_of_length_le (by omega)]
    refine w_call rfl ((compW_ok hO m l[j] _ _ _ _ (by simp at hm;omega) ka kb (bl.mem _ (List.getElem_mem hjl))).mono fun v' h5 ⟨e1,e2⟩=>?_)
    subst e1
    repeat' (first|refine w_reg ?_|refine w_e ?_|refine w_addN rfl rfl (by omega) ?_|refine w_opk rfl rfl ?_)
    exact ⟨hje,hE.trans e2,_,rfl⟩
   ·exact ⟨rfl,E2.trans hE⟩
   ·exact absurd rfl hc
  ·exact ⟨rfl,E2⟩
theorem same02W_ok (hO:OffVals O) {Z Z':Nat→Prop} {a:Val} {c d:List V} {h0:Heap} (ha:VaR Z h0 a c) (hb:VaR Z' h0 a d) (hbd:BndV a):WPc tab.get O 63 [.agg c,.agg d] h0 (fun v h'=>v=.bool true∧Ext h0 h'):=by
 refine w_fn' (hO.sm _ _) rfl rfl (by simp only [c63,initV,nth] <;> rfl) ?_
 have hs:=ha.shape
 have hs':=hb.shape
 refine w_seq (w_reg (w_box rfl hs.1 hs.2 fun iA h1 hA hiA hE1=>?_))
 refine w_box rfl hs'.1 hs'.2 fun iB h2 hB hiB hE2=>?_
 have E2:=hE1.trans hE2
 replace hA:Own h2 iA c:=hA.ext0 hE2
 replace hB:Own h2 iB d:=hB
 repeat' (first|refine w_seq ?_|refine w_reg ?_|refine w_e ?_|refine w_opk rfl rfl ?_)
 refine w_loadA rfl (hA.at hs.1) (by rw [hs.1];rfl) ?_
 refine w_loadA rfl (hB.at hs'.1) (by rw [hs'.1];rfl) ?_
 rw [show List.take 4 c=c from List.take_of_length_le (by omega),show List.take 4 d=d from List.take_of_length_le (by omega)]
 refine w_callA [.agg c,.agg d] rfl ?_
 refine WPc.mono (Q:=fun v h'=>v=.int .i64 0∧Ext h2 h') ?_ fun v' h5 ⟨e1,e2⟩=>?_
 ·refine w_fn' (hO.cmp2 _ _) rfl rfl (by simp only [c131,initV,nth] <;> rfl) ?_
  refine w_seq (w_reg (w_box rfl hs.1 hs.2 fun iC h3 hC hiC hE3=>?_))
  refine w_box rfl hs'.1 hs'.2 fun iD h4 hD hiD hE4=>?_
  replace hC:Own h4 iC c:=hC.ext0 hE4
  replace hD:Own h4 iD d:=hD
  have E4:=hE3.trans hE4
  repeat' (first|refine w_seq ?_|refine w_reg ?_|refine w_e ?_|refine w_opk rfl rfl ?_)
  refine w_loadA rfl (hC.at hs.1) (by rw [hs.1];rfl) ?_
  refine w_loadA rfl (hD.at hs'.1) (by rw [hs'.1];rfl) ?_
  rw [show List.take 4 c=c from List.take_of_length_le (by omega),show List.take 4 d=d from List.take_of_length_le (by omega)]
  refine w_callA [.agg c,.agg d,.int .i64 16] rfl ((compW_ok hO (sizeOf a+1) a c d 16 h4 (by omega) ((ha.ext0 E2).ext0 E4) ((hb.ext0 E2).ext0 E4) hbd).mono fun v' h5 ⟨e1,e2⟩=>?_)
  subst e1
  repeat' (first|refine w_e ?_|refine w_opk rfl rfl ?_|refine w_ret ?_|refine w_rt rfl ?_)
  exact ⟨rfl,E4.trans e2⟩
 ·subst e1
  repeat' (first|refine w_e ?_|refine w_eqlN rfl rfl (fun hc=>?_) (fun hc=>?_)|refine w_opk rfl rfl ?_|refine w_ret ?_|refine w_rt rfl ?_)
  ·exact ⟨rfl,E2.trans e2⟩
  ·exact absurd rfl hc
theorem sameValsW_ok (hO:OffVals O) {Z Z':Nat→Prop} {h0:Heap} {v w:V} {lc ld:List (List V)} {l:List Val} (r1:RS h0 4 v lc) (hl:VasR Z h0 l lc) (r2:RS h0 4 w ld) (hm:VasR Z' h0 l ld) (hb:l.length≤2097152) (hbd:∀ a∈l,BndV a):WPc tab.get O 19 [v,w] h0 (fun v h'=>v=.bool true∧Ext h0 h'):=by
 refine w_fn' (hO.sv _ _) rfl rfl (by simp only [c19,initV,nth] <;> rfl) ?_
 have n1:=hl.len
 have n2:=hm.len
 have hel:ld.length=lc.length:=by omega
 repeat' (first|refine w_seq ?_|refine w_reg ?_|refine w_e ?_|refine w_len rfl (by assumption) ?_|refine w_neqN rfl rfl (fun hc=>?_) (fun hc=>?_)|refine w_opk rfl rfl ?_|refine w_cond_t rfl ?_|refine w_cond_f rfl ?_|refine w_skip ?_|refine w_ret ?_|refine w_rt rfl ?_)
 ·exact absurd hel.symm (by assumption)
 refine w_count (fun j vs h=>Ext h0 h∧∃ b3 b6 b7 b8,vs=[v,w,.bool false,b3,.int .i64 (.ofNat j),.int .i64 (.ofNat lc.length),b6,b7,b8]) lc.length ⟨ExtX.refl _ _,_,_,_,_,rfl⟩ ?_
 rintro j vs h hj ⟨hE,b3,b6,b7,b8,rfl⟩
 have r1':=r1.ext0 hE
 have r2':=r2.ext0 hE
 repeat' (first|refine w_seq ?_|refine w_reg ?_|refine w_e ?_|refine w_lssN rfl rfl (fun hc=>?_) (fun hc=>?_)|refine w_opk rfl rfl ?_|refine w_cond_t rfl ?_|refine w_cond_f rfl ?_|refine w_skip ?_|refine w_exit rfl ?_|refine w_ret ?_|refine w_rt rfl ?_)
 ·have hj1:j<lc.length:=by assumption
  have hj2:j<l.length:=by omega
  have hj4:j<ld.length:=by omega
  have ka:=(hl.get hj2 hj1).ext0 hE
  have kb:=(hm.get hj2 hj4).ext0 hE
  have s1:=ka.shape
  have s2:=kb.shape
  refine w_block ?_
  repeat' (first|refine w_seq ?_|refine w_reg ?_|refine w_e ?_|refine w_opk rfl rfl ?_)
  refine w_iadrS rfl rfl r1' hj1 ?_
  refine w_loadA rfl (slot_at r1' hj1) (by rw [s1.1];rfl) ?_
  repeat' (first|refine w_opk rfl rfl ?_)
  refine w_iadrS rfl rfl r2' hj4 ?_
  refine w_loadA rfl (slot_at r2' hj4) (by rw [s2.1];rfl) ?_
  rw [show List.take 4 lc[j]=lc[j] from List.take_of_length_le (by omega),show List.take 4 ld[j]=ld[j] from List.take_of_length_le (by omega)]
  refine w_call rfl ((same02W_ok hO ka kb (hbd _ (List.getElem_mem hj2))).mono fun _ h5 ⟨e1,e2⟩=>?_)
  subst e1
  repeat' (first|refine w_reg ?_|refine w_e ?_|refine w_addN rfl rfl (by omega) ?_|refine w_opk rfl rfl ?_|refine w_cond_f rfl ?_|refine w_skip ?_)
  exact ⟨hj1,hE.trans e2,_,_,_,_,rfl⟩
 ·exact ⟨rfl,hE⟩
theorem sameEffsW_ok (hO:OffWV O) {Z Z':Nat→Prop} {h0:Heap} {v w:V} {lc ld:List (List V)} {l:List Eff} (r1:RS h0 4 v lc) (hl:All2 (EffR Z h0) lc l) (r2:RS h0 4 w ld) (hm:All2 (EffR Z' h0) ld l) (hb:l.length≤2097152) (hbd:∀ e∈l,e.args.length≤2097152∧∀ a∈e.args,BndV a):WPc tab.get O 20 [v,w] h0 (fun v h'=>v=.bool true∧Ext h0 h'):=by
 refine w_fn' (hO.se _ _) rfl rfl (by simp only [c20,initV,nth] <;> rfl) ?_
 have n1:=hl.1
 have n2:=hm.1
 have hel:ld.length=lc.length:=by omega
 repeat' (first|refine w_seq ?_|refine w_reg ?_|refine w_e ?_|refine w_len rfl (by assumption) ?_|refine w_neqN rfl rfl (fun hc=>?_) (fun hc=>?_)|refine w_opk rfl rfl ?_|refine w_cond_t rfl ?_|refine w_cond_f rfl ?_|refine w_skip ?_|refine w_ret ?_|refine w_rt rfl ?_)
 ·exact absurd hel.symm (by assumption)
 refine w_count (fun j vs h=>Ext h0 h∧∃ b3 b6 b7 b8,vs=[v,w,.bool false,b3,.int .i64 (.ofNat j),.int .i64 (.ofNat lc.length),b6,b7,b8]) lc.length ⟨ExtX.refl _ _,_,_,_,_,rfl⟩ ?_
 rintro j vs h hj ⟨hE,b3,b6,b7,b8,rfl⟩
 have r1':=r1.ext0 hE
 have r2':=r2.ext0 hE
 repeat' (first|refine w_seq ?_|refine w_reg ?_|refine w_e ?_|refine w_lssN rfl rfl (fun hc=>?_) (fun hc=>?_)|refine w_opk rfl rfl ?_|refine w_cond_t rfl ?_|refine w_cond_f rfl ?_|refine w_skip ?_|refine w_exit rfl ?_|refine w_ret ?_|refine w_rt rfl ?_)
 ·have hj1:j<lc.length:=by assumption
  have hj2:j<l.length:=by omega
  have hj4:j<ld.length:=by omega
  have ka:=(hl.get hj1 hj2).ext hE (S:=[]) (Z':=Z) (by simp) fun _ h _=>h
  have kb:=(hm.get hj4 hj2).ext hE (S:=[]) (Z':=Z') (by simp) fun _ h _=>h
  have qa:=hbd _ (List.getElem_mem hj2)
  have hsa:=slot_at r1' hj1
  have hsb:=slot_at r2' hj4
  generalize l[j]=a at *
  obtain ⟨v1,lc1,e1,w1,x1⟩:=ka
  obtain ⟨v2,lc2,e2,w2,x2⟩:=kb
  rw [e1] at hsa
  rw [e2] at hsb
  refine w_block ?_
  repeat' (first|refine w_seq ?_|refine w_reg ?_|refine w_e ?_|refine w_opk rfl rfl ?_)
  refine w_iadrS rfl rfl r1' hj1 ?_
  refine w_fadr rfl hsa rfl fun hs=>?_
  refine w_load1 rfl hs rfl ?_
  repeat' (first|refine w_opk rfl rfl ?_)
  refine w_iadrS rfl rfl r2' hj4 ?_
  refine w_fadr rfl hsb rfl fun hs=>?_
  refine w_load1 rfl hs rfl ?_
  repeat' (first|refine w_seq ?_|refine w_reg ?_|refine w_e ?_|refine w_off rfl ?_|refine w_on rfl ?_|refine w_neq rfl rfl (fun hc=>?_) (fun hc=>?_)|refine w_opk rfl rfl ?_|refine w_cond_t rfl ?_|refine w_ret ?_|refine w_rt rfl ?_)
  ·exact absurd rfl (by assumption)
  refine w_iadrS rfl rfl r1' hj1 ?_
  refine w_on rfl (w_fadr rfl hsa rfl fun hs=>?_)
  refine w_on rfl (w_load1 rfl hs rfl ?_)
  repeat' (first|refine w_on rfl ?_|refine w_opk rfl rfl ?_)
  refine w_iadrS rfl rfl r2' hj4 ?_
  refine w_on rfl (w_fadr rfl hsb rfl fun hs=>?_)
  refine w_on rfl (w_load1 rfl hs rfl ?_)
  repeat' (first|refine w_seq ?_|refine w_reg ?_|refine w_e ?_|refine w_off rfl ?_|refine w_on rfl ?_|refine w_neq rfl rfl (fun hc=>?_) (fun hc=>?_)|refine w_opk rfl rfl ?_|refine w_cond_t rfl ?_|refine w_ret ?_|refine w_rt rfl ?_)
  ·exact absurd rfl (by assumption)
  refine w_iadrS rfl rfl r1' hj1 ?_
  refine w_on rfl (w_fadr rfl hsa rfl fun hs=>?_)
  refine w_on rfl (w_load1 rfl hs rfl ?_)
  repeat' (first|refine w_on rfl ?_|refine w_opk rfl rfl ?_)
  refine w_iadrS rfl rfl r2' hj4 ?_
  refine w_on rfl (w_fadr rfl hsb rfl fun hs=>?_)
  refine w_on rfl (w_load1 rfl hs rfl ?_)
  refine w_on rfl (w_strE rfl rfl ?_)
  repeat' (first|refine w_on rfl ?_|refine w_opk rfl rfl ?_)
  refine w_iadrS rfl rfl r1' hj1 ?_
  refine w_on rfl (w_fadr rfl hsa rfl fun hs=>?_)
  refine w_on rfl (w_load1 (c:=[]) rfl hs rfl ?_)
  repeat' (first|refine w_on rfl ?_|refine w_opk rfl rfl ?_)
  refine w_iadrS rfl rfl r2' hj4 ?_
  refine w_on rfl (w_fadr rfl hsb rfl fun hs=>?_)
  refine w_on rfl (w_load1 (c:=[]) rfl hs rfl ?_)
  refine w_on rfl (w_call rfl ((sameValsW_ok hO.toOffVals w1.1 x1 w2.1 x2 qa.1 qa.2).mono fun _ h5 ⟨e3,e4⟩=>?_))
  subst e3
  repeat' (first|refine w_reg ?_|refine w_e ?_|refine w_on rfl ?_|refine w_addN rfl rfl (by omega) ?_|refine w_opk rfl rfl ?_|refine w_cond_f rfl ?_|refine w_skip ?_)
  exact ⟨hj1,hE.trans e4,_,_,_,_,rfl⟩
 ·exact ⟨rfl,hE⟩
end AmT
namespace AmT
open Go Am
set_option maxRecDepth 100000
set_option maxHeartbeats 4000000
variable {O:CallF}
structure OffWF (O:CallF):Prop where
 pc:∀ a h,O 67 a h=none
 few:∀ a h,O 25 a h=none
theorem piecesW_ok (hO:OffWF O) {Z:Nat→Prop} : ∀ (n:Nat) (a:Val) (c:List V) (lv:Int) (h0:Heap),sizeOf a<n→VaR Z h0 a c→BndV a→WPc tab.get O 67 [.agg c,.int .i64 lv] h0 (fun v h'=>(∃ m,v=.int .i64 m)∧Ext h0 h')
 | 0,a,_,_,_,hm,_,_=>absurd hm (Nat.not_lt_zero _)
 | n+1,.mk k x s l,c,lv,h0,hm,ha,hbd=>by
  have hs:=ha.shape
  unfold VaR at ha
  unfold BndV at hbd
  obtain ⟨v,es,e,rv,va⟩:=ha
  obtain ⟨bs,bes,bl⟩:=hbd
  have hlc:=va.len
  refine w_fn' (hO.pc _ _) rfl rfl (by simp only [c67,initV,nth] <;> rfl) ?_
  refine w_seq (w_reg (w_box rfl hs.1 hs.2 fun iA h1 hA hiA hE1=>?_))
  have r1:=rv.1.ext0 hE1
  replace va:=va.ext0 hE1
  have hbl:es.length≤2097152:=by omega
  clear rv
  subst e
  repeat' (first|refine w_seq ?_|refine w_reg ?_|refine w_e ?_|refine w_off rfl ?_|refine w_rf rfl (by assumption) (by rfl) (by rfl) (by rfl) ?_|refine w_rfg rfl rfl (by assumption) (by rfl) (by rfl) (by rfl) (by rfl) ?_|refine w_on rfl ?_|refine w_len rfl (by assumption) ?_|refine w_gtrN rfl rfl (fun hc=>?_) (fun hc=>?_)|refine w_lss rfl rfl (fun hc=>?_) (fun hc=>?_)|refine w_opk rfl rfl ?_|refine w_cond_t rfl ?_|refine w_cond_f rfl ?_|refine w_skip ?_|refine w_ret ?_|refine w_rt rfl ?_)
  ·exact ⟨⟨_,rfl⟩,hE1⟩
  ·exact ⟨⟨_,rfl⟩,hE1⟩
  refine w_count (fun j vs h=>Ext h1 h∧∃ b4 b7 m b10 b11,vs=[.agg [.int .u8 k,.int .i64 x,.str s,v],.int .i64 lv,.int .i64 0,.ptr iA 0 0 4,b4,.int .i64 (.ofNat j),.int .i64 (.ofNat es.length),b7,v,.int .i64 m,b10,b11]) es.length ⟨ExtX.refl _ _,_,_,_,_,_,rfl⟩ ?_
  rintro j vs h hj ⟨hE,b4,b7,m,b10,b11,rfl⟩
  have hA':=hA.ext0 hE
  have r':=r1.ext0 hE
  repeat' (first|refine w_seq ?_|refine w_reg ?_|refine w_e ?_|refine w_lssN rfl rfl (fun hc=>?_) (fun hc=>?_)|refine w_opk rfl rfl ?_|refine w_cond_t rfl ?_|refine w_cond_f rfl ?_|refine w_skip ?_|refine w_exit rfl ?_|refine w_ret ?_|refine w_rt rfl ?_)
  ·have hje:j<es.length:=by assumption
   have hjl:j<l.length:=by omega
   have ka:=(va.get hjl hje).ext0 hE
   have hsh:=ka.shape
   have hsz:=List.sizeOf_lt_of_mem (List.getElem_mem hjl)
   refine w_block ?_
   repeat' (first|refine w_seq ?_|refine w_reg ?_)
   refine w_iadrS rfl rfl r' hje ?_
   refine w_loadA rfl (slot_at r' hje) (by rw [hsh.1];rfl) ?_
   rw [show List.take 4 es[j]=es[j] from List.take_of_length_le (by omega)]
   refine w_new (fun p=>rfl) hsh.1 rfl hsh.2 fun iX h2 hX hiX hE2=>?_
   repeat' (first|refine w_seq ?_|refine w_reg ?_|refine w_e ?_|refine w_opk rfl rfl ?_)
   refine w_loadA rfl (hX.at hsh.1) (by show Nat.ble 4 es[j].length=true;rw [hsh.1];rfl) ?_
   rw [show List.take 4 (V.agg es[j]).cells=es[j] from List.take_of_length_le (by show es[j].length≤4;omega)]
   repeat' (first|refine w_opk rfl rfl ?_)
   refine w_call rfl ((piecesW_ok hO n l[j] _ _ _ (by simp at hm;omega) (ka.ext0 hE2) (bl.mem _ (List.getElem_mem hjl))).mono fun v' h5 ⟨⟨m',e1⟩,e2⟩=>?_)
   subst e1
   repeat' (first|refine w_seq ?_|refine w_reg ?_|refine w_e ?_|refine w_gtr rfl rfl (fun hc=>?_) (fun hc=>?_)|refine w_addN rfl rfl (by omega) ?_|refine w_opk rfl rfl ?_|refine w_cond_t rfl ?_|refine w_cond_f rfl ?_|refine w_skip ?_|refine w_ret ?_|refine w_rt rfl ?_)
   ·exact ⟨⟨_,rfl⟩,(hE1.trans hE).trans (hE2.trans e2)⟩
   ·exact ⟨hje,hE.trans (hE2.trans e2),_,_,_,_,_,rfl⟩
  ·exact ⟨⟨_,rfl⟩,hE1.trans hE⟩
theorem fewW_ok (hO:OffWF O) {Z:Nat→Prop} {h0:Heap} {v:V} {lc:List (List V)} {l:List Val} (hv:RS h0 4 v lc) (hl:VasR Z h0 l lc) (hb:l.length≤2097152) (hbd:∀ a∈l,BndV a):WPc tab.get O 25 [v] h0 (fun v h'=>(∃ b,v=.bool b)∧Ext h0 h'):=by
 refine w_fn' (hO.few _ _) rfl rfl (by simp only [c25,initV,nth] <;> rfl) ?_
 have hlc:=hl.len
 have hbl:lc.length≤2097152:=by omega
 repeat' (first|refine w_seq ?_|refine w_reg ?_|refine w_e ?_|refine w_len rfl (by assumption) ?_|refine w_opk rfl rfl ?_)
 refine w_count (fun j vs h=>Ext h0 h∧∃ b4 m b7,vs=[v,.bool false,.int .i64 (.ofNat j),.int .i64 (.ofNat lc.length),b4,v,.int .i64 m,b7]) lc.length ⟨ExtX.refl _ _,_,_,_,rfl⟩ ?_
 rintro j vs h hj ⟨hE,b4,m,b7,rfl⟩
 have r':=hv.ext0 hE
 repeat' (first|refine w_seq ?_|refine w_reg ?_|refine w_e ?_|refine w_lssN rfl rfl (fun hc=>?_) (fun hc=>?_)|refine w_leq rfl rfl (fun hc=>?_) (fun hc=>?_)|refine w_opk rfl rfl ?_|refine w_cond_t rfl ?_|refine w_cond_f rfl ?_|refine w_skip ?_|refine w_exit rfl ?_|refine w_ret ?_|refine w_rt rfl ?_)
 ·have hje:j<lc.length:=by assumption
  have hjl:j<l.length:=by omega
  have ka:=(hl.get hjl hje).ext0 hE
  have hsh:=ka.shape
  refine w_block ?_
  repeat' (first|refine w_seq ?_|refine w_reg ?_)
  refine w_iadrS rfl rfl r' hje ?_
  refine w_loadA rfl (slot_at r' hje) (by rw [hsh.1];rfl) ?_
  rw [show List.take 4 lc[j]=lc[j] from List.take_of_length_le (by omega)]
  refine w_new (fun p=>rfl) hsh.1 rfl hsh.2 fun iX h2 hX hiX hE2=>?_
  repeat' (first|refine w_reg ?_|refine w_e ?_|refine w_opk rfl rfl ?_)
  refine w_loadA rfl (hX.at hsh.1) (by show Nat.ble 4 lc[j].length=true;rw [hsh.1];rfl) ?_
  rw [show List.take 4 (V.agg lc[j]).cells=lc[j] from List.take_of_length_le (by show lc[j].length≤4;omega)]
  refine w_call rfl ((piecesW_ok hO (sizeOf l[j]+1) l[j] _ _ _ (by omega) (ka.ext0 hE2) (hbd _ (List.getElem_mem hjl))).mono fun v' h5 ⟨⟨m',e1⟩,e2⟩=>?_)
  subst e1
  repeat' (first|refine w_reg ?_|refine w_e ?_|refine w_addN rfl rfl (by omega) ?_|refine w_opk rfl rfl ?_)
  exact ⟨hje,hE.trans (hE2.trans e2),_,_,_,rfl⟩
 ·exact ⟨⟨_,rfl⟩,hE⟩
 ·exact ⟨⟨_,rfl⟩,hE⟩
end AmT
namespace AmT
open Go Am
set_option maxRecDepth 100000
set_option maxHeartbeats 4000000
variable {O:CallF}
theorem cloneVal_ok (hO:∀ a h,O 56 a h=none) {h0:Heap} {v:V} {l:List (List V)} (hv:RS h0 4 v l) (hl:l.length≤4294967296) :
  WPc tab.get O 56 [v] h0 (fun w h'=>Ow h' 4 w l∧Ext h0 h'∧∀ j∈slIds w,h0.n≤j):=by
 refine w_fn' (hO _ _) rfl rfl (by simp only [c56,initV,nth] <;> rfl) ?_
 refine w_seq (w_reg ?_)
 repeat' (first|refine w_seq ?_|refine w_reg ?_|refine w_e ?_|refine w_opk rfl rfl ?_)
 refine w_isnil rfl hv (fun e=>?_) (fun e=>?_)
 ·subst e
  have hl0:l=[]:=by
   have:=hv.1
   simp only [srcCells,Option.some.injEq,Prod.mk.injEq] at this
   exact List.eq_nil_of_length_eq_zero this.1.symm
  subst hl0
  repeat' (first|refine w_seq ?_|refine w_reg ?_|refine w_e ?_|refine w_opk rfl rfl ?_|refine w_cond_t rfl ?_|refine w_ret ?_|refine w_rt rfl ?_)
  exact ⟨Ow.nils _ _,ExtX.refl _ _,by simp [slIds,packV]⟩
 ·repeat' (first|refine w_seq ?_|refine w_reg ?_|refine w_e ?_|refine w_cond_f rfl ?_|refine w_skip ?_)
  refine w_bslice [] rfl (by rfl) rfl rfl (by simp) fun e0 h1 he0 hf1=>?_
  have he0n:∀ j∈slIds e0,h0.n≤j:=fun j hj=>by
   rcases hf1.2 j hj with e | e
   ·cases e
   ·exact e
  repeat' (first|refine w_opk rfl rfl ?_)
  refine w_app rfl rfl he0 (hv.ext0 hf1.ext0) (by simpa using hl) fun w h2 hw hf2=>?_
  rw [List.nil_append] at hw
  repeat' (first|refine w_e ?_|refine w_opk rfl rfl ?_|refine w_ret ?_|refine w_rt rfl ?_)
  refine ⟨hw,hf1.ext0.step hf2.1 fun j hj=>.inr (he0n j hj),fun j hj=>?_⟩
  rcases hf2.2 j hj with e | e
  ·exact he0n j e
  ·have:=hf1.1.1;omega
theorem cloneEff_ok (hO:∀ a h,O 128 a h=none) {h0:Heap} {v:V} {l:List (List V)} (hv:RS h0 4 v l) (hl:l.length≤4294967296) :
  WPc tab.get O 128 [v] h0 (fun w h'=>Ow h' 4 w l∧Ext h0 h'∧∀ j∈slIds w,h0.n≤j):=by
 refine w_fn' (hO _ _) rfl rfl (by simp only [c128,initV,nth] <;> rfl) ?_
 refine w_seq (w_reg ?_)
 repeat' (first|refine w_seq ?_|refine w_reg ?_|refine w_e ?_|refine w_opk rfl rfl ?_)
 refine w_isnil rfl hv (fun e=>?_) (fun e=>?_)
 ·subst e
  have hl0:l=[]:=by
   have:=hv.1
   simp only [srcCells,Option.some.injEq,Prod.mk.injEq] at this
   exact List.eq_nil_of_length_eq_zero this.1.symm
  subst hl0
  repeat' (first|refine w_seq ?_|refine w_reg ?_|refine w_e ?_|refine w_opk rfl rfl ?_|refine w_cond_t rfl ?_|refine w_ret ?_|refine w_rt rfl ?_)
  exact ⟨Ow.nils _ _,ExtX.refl _ _,by simp [slIds,packV]⟩
 ·repeat' (first|refine w_seq ?_|refine w_reg ?_|refine w_e ?_|refine w_cond_f rfl ?_|refine w_skip ?_)
  refine w_bslice [] rfl (by rfl) rfl rfl (by simp) fun e0 h1 he0 hf1=>?_
  have he0n:∀ j∈slIds e0,h0.n≤j:=fun j hj=>by
   rcases hf1.2 j hj with e | e
   ·cases e
   ·exact e
  repeat' (first|refine w_opk rfl rfl ?_)
  refine w_app rfl rfl he0 (hv.ext0 hf1.ext0) (by simpa using hl) fun w h2 hw hf2=>?_
  rw [List.nil_append] at hw
  repeat' (first|refine w_e ?_|refine w_opk rfl rfl ?_|refine w_ret ?_|refine w_rt rfl ?_)
  refine ⟨hw,hf1.ext0.step hf2.1 fun j hj=>.inr (he0n j hj),fun j hj=>?_⟩
  rcases hf2.2 j hj with e | e
  ·exact he0n j e
  ·have:=hf1.1.1;omega
theorem cloneFrame_ok (hO:∀ a h,O 129 a h=none) {h0:Heap} {v:V} {l:List (List V)} (hv:RS h0 4 v l) (hl:l.length≤4294967296) :
  WPc tab.get O 129 [v] h0 (fun w h'=>Ow h' 4 w l∧Ext h0 h'∧∀ j∈slIds w,h0.n≤j):=by
 refine w_fn' (hO _ _) rfl rfl (by simp only [c129,initV,nth] <;> rfl) ?_
 refine w_seq (w_reg ?_)
 repeat' (first|refine w_seq ?_|refine w_reg ?_|refine w_e ?_|refine w_opk rfl rfl ?_)
 refine w_isnil rfl hv (fun e=>?_) (fun e=>?_)
 ·subst e
  have hl0:l=[]:=by
   have:=hv.1
   simp only [srcCells,Option.some.injEq,Prod.mk.injEq] at this
   exact List.eq_nil_of_length_eq_zero this.1.symm
  subst hl0
  repeat' (first|refine w_seq ?_|refine w_reg ?_|refine w_e ?_|refine w_opk rfl rfl ?_|refine w_cond_t rfl ?_|refine w_ret ?_|refine w_rt rfl ?_)
  exact ⟨Ow.nils _ _,ExtX.refl _ _,by simp [slIds,packV]⟩
 ·repeat' (first|refine w_seq ?_|refine w_reg ?_|refine w_e ?_|refine w_cond_f rfl ?_|refine w_skip ?_)
  refine w_bslice [] rfl (by rfl) rfl rfl (by simp) fun e0 h1 he0 hf1=>?_
  have he0n:∀ j∈slIds e0,h0.n≤j:=fun j hj=>by
   rcases hf1.2 j hj with e | e
   ·cases e
   ·exact e
  repeat' (first|refine w_opk rfl rfl ?_)
  refine w_app rfl rfl he0 (hv.ext0 hf1.ext0) (by simpa using hl) fun w h2 hw hf2=>?_
  rw [List.nil_append] at hw
  repeat' (first|refine w_e ?_|refine w_opk rfl rfl ?_|refine w_ret ?_|refine w_rt rfl ?_)
  refine ⟨hw,hf1.ext0.step hf2.1 fun j hj=>.inr (he0n j hj),fun j hj=>?_⟩
  rcases hf2.2 j hj with e | e
  ·exact he0n j e
  ·have:=hf1.1.1;omega
end AmT
namespace AmT
open Go Am
set_option maxRecDepth 100000
set_option maxHeartbeats 4000000
variable {O:CallF}
def zeroVal:List V:=[.int .u8 0,.int .i64 0,.str [],.nils]
theorem bslice_eq {ls vs:List V} {h:Heap} {x:Opd} {c:List V} (hx:ev ls vs x=some (.agg c)) (hl:c.length=4) (h1:allOne c=true):opv (.bslice 1 4 zeroVal [(0,4,x)]) ls vs h=some (.sl h.n 0 1 0 4 true,h.alloc (.cells c 0 big)):=by
 show o_bslice 1 4 zeroVal [(0,4,x)] ls vs h=_
 have e1:rep 1 zeroVal=zeroVal:=rfl
 have e2:Nat.ble (0+4) zeroVal.length=true:=rfl
 have e3:Nat.beq (V.agg c).cells.length 4=true:=nbeq.2 hl
 have e4:allOne (V.agg c).cells=true:=h1
 simp only [o_bslice,evp,hx,fillP,e1,e3,e2,e4,Bool.and_self,splice]
 rw [over_all (by show c.length=zeroVal.length;rw [hl];rfl)]
 rfl
theorem app_new {ls vs:List V} {h:Heap} {s x:Opd} {v w:V} {c:List V} {h':Heap} {id:Nat} (hs:ev ls vs s=some v) (hx:ev ls vs x=some (.sl id 0 1 0 4 true)) (hg:h.get id=some (.cells c 0 big)) (hl:c.length=4) (e:appV h 4 v 1 c=some (w,h')):opv (.app 4 s x) ls vs h=some (w,h'):=by
 show o_app 4 s x ls vs h=_
 have h2:srcCells h 4 (.sl id 0 1 0 4 true)=some (1,c):=by
  simp only [srcCells,hg]
  rw [good_refl (by omega)]
  simp only [show Nat.beq 4 4=true from rfl,Bool.and_self,List.drop_zero]
  rw [List.take_of_length_le (by omega)]
 simp only [o_app,hs,hx,h2,e]
theorem store_eq {ls vs:List V} {h h':Heap} {n:Nat} {a x:Opd} {p v:V} (ha:ev ls vs a=some p) (hx:ev ls vs x=some v) (e:wr h n p v=some h'):opv (.store n a x) ls vs h=some (.any,h'):=by
 show o_store n a x ls vs h=_
 simp only [o_store,ha,hx,e]
theorem put_ok (hO:∀ a h,O 192 a h=none) {h0:Heap} {x j:Nat} {X lf ls:List (List V)} {XC c:List V} {vf f a vv stk:V}
  (hX:Own h0 x XC) (hXl:XC.length=14) (hXp:nth XC 13=some (slotP vf j)) (hF:Ow h0 4 vf lf) (hj:j<lf.length) (hlj:lf[j]=[f,a,vv,stk]) (hS:Ow h0 4 stk ls) (hb:ls.length<200) (hcl:c.length=4) (hc1:allOne c=true)
  (hd:∀ i∈slIds stk,i∉slIds vf) (hxf:x∉slIds vf) (hxs:x∉slIds stk) :
  WPc tab.get O 192 [.ptr x 0 0 14,.agg c] h0 (fun _ h'=>∃ stk',Ow h' 4 vf (lf.set j [f,a,vv,stk'])∧Ow h' 4 stk' (ls++[c])∧ExtX (slIds vf++slIds stk) h0 h'∧∀ i∈slIds stk',i∈slIds stk∨h0.n≤i):=by
 refine w_fn' (hO _ _) rfl rfl (by simp only [c192,initV,nth] <;> rfl) ?_
 refine w_seq (w_reg (w_box rfl hcl hc1 fun iV h1 hV hiV hE1=>?_))
 replace hV:Own h1 iV c:=hV
 replace hX:=hX.ext0 hE1
 have hF1:=hF.ext0 hE1
 have hS1:=hS.ext0 hE1
 have hA1:=slot_at hF1.rs hj
 rw [hlj] at hA1
 have hX13:At h1 (.ptr x (0+13) 0 14) [slotP vf j]:=by
  have h2:=(hX.at hXl).fadr (d:=13) (by omega)
  have h3:XC.drop 13=[slotP vf j]:=by
   rw [nth_eq] at hXp
   obtain ⟨g1,g2⟩:=List.getElem?_eq_some_iff.1 hXp
   rw [List.drop_eq_getElem_cons g1,g2,List.drop_of_length_le (by omega)]
  rwa [h3] at h2
 repeat' (first|refine w_seq ?_|refine w_reg ?_|refine w_e ?_|refine w_opk rfl rfl ?_)
 refine w_load1 (c:=[]) rfl hX13 rfl ?_
 skip
 refine w_nilck rfl hA1 ?_
 refine w_fadr rfl hA1 rfl fun hA3=>?_
 refine w_load1 (c:=[]) rfl hA3 rfl ?_
 have rS:=hS1.rs
 repeat' (first|refine w_seq ?_|refine w_reg ?_|refine w_e ?_|refine w_len rfl (by assumption) ?_|refine w_geqN rfl rfl (fun hc=>?_) (fun hc=>?_)|refine w_opk rfl rfl ?_|refine w_cond_t rfl ?_|refine w_cond_f rfl ?_|refine w_skip ?_)
 ·exact absurd hc (by show ¬ _;omega)
 clear rS hA3
 -- where both ways begin
 have hEk:Ext h1 (h1.alloc (.cells [] 1 0)):=ExtX.alloc _ _
 have hkn:(h1.alloc (.cells [] 1 0)).n=h1.n+1:=rfl
 have hXk:=hX.ext0 hEk
 have hFk:=hF1.ext0 hEk
 have hSk:=hS1.ext0 hEk
 have hVk:=hV.ext0 hEk
 have hA:=slot_at hFk.rs hj
 rw [hlj] at hA
 replace hX13:At (h1.alloc (.cells [] 1 0)) (.ptr x (0+13) 0 14) [slotP vf j]:=by
  have h2:=(hXk.at hXl).fadr (d:=13) (by omega)
  have h3:XC.drop 13=[slotP vf j]:=by
   rw [nth_eq] at hXp
   obtain ⟨g1,g2⟩:=List.getElem?_eq_some_iff.1 hXp
   rw [List.drop_eq_getElem_cons g1,g2,List.drop_of_length_le (by omega)]
  rwa [h3] at h2
 have lF:=hF1.rs.lt
 have lS:=hS1.rs.lt
 have cS:∀ i∈slIds stk,∃ d v l,(h1.alloc (.cells [] 1 0)).get i=some (.cells d v l):=by
  intro i hi
  rcases hSk.2 with rfl | ⟨id,off,len,ver,full,cs,low,rfl,hg⟩
  ·simp [slIds] at hi
  ·simp [slIds] at hi;subst hi;exact ⟨_,_,_,hg⟩
 obtain ⟨id,off,ver,pre,low,n2,happ,hpre,hdrop,hid⟩:=app_ex hSk (h1.n+2) (by omega)
 obtain ⟨fid,fcs,fver,flow,o,hfs,hfp,hfg,hwr⟩:=wr_ex hFk (d:=3) (n:=1) hj (by decide)
 generalize hke:h1.alloc (.cells [] 1 0)=hk at *
 have lfid:fid<h1.n:=lF fid (by rw [hfs];simp)
 have hne:fid≠id:=by
  rcases hid with ⟨e,_⟩ | ⟨e,_⟩
  ·omega
  ·intro e2;subst e2;exact hd _ e (by rw [hfs];simp)
 have lid:id<n2∧h1.n+2≤n2:=by
  rcases hid with ⟨e,e2⟩ | ⟨e,e2⟩
  ·omega
  ·have:=lS id e;omega
 -- way one
 have a1n:(hk.alloc (.cells zeroVal 0 big)).n=h1.n+2:=by rw [Heap.n_alloc];omega
 obtain ⟨a2,ea2,na2,ga2,oa2⟩:=happ (hk.alloc (.cells zeroVal 0 big)) a1n (fun i hi=>by rw [Heap.get_alloc,if_neg (by have:=lS i hi;omega)]) zeroVal rfl
 have fa2:a2.get fid=hk.get fid:=by rw [oa2 fid hne,Heap.get_alloc,if_neg (by omega)]
 obtain ⟨a3,ea3,na3,ga3,oa3,ofa3⟩:=hwr a2 (.sl id off (ls.length+1) ver 4 false) fa2 (by omega) rfl rfl
 have ga3':a3.get id=some (.cells (pre++zeroVal) ver low):=by rw [oa3 id (Ne.symm hne),ga2]
 have osa3:Ow a3 4 (.sl id off (ls.length+1) ver 4 false) (ls++[zeroVal]):=ow_end (by omega) ga3' hSk.1.2.2.2 rfl hpre hdrop
 have ea4:wr a3 4 (.ptr id (off+ls.length * 4) ver (off+(ls.length+1) * 4)) (.agg c)=some (a3.set id (.cells (pre++c) ver (minN low (off+ls.length * 4)))):=by
  have b1:Nat.beq (V.agg c).cells.length 4=true:=nbeq.2 hcl
  have b2:Nat.ble (off+ls.length * 4+4) (off+(ls.length+1) * 4)=true:=nble.2 (by omega)
  have b3:Nat.ble (off+ls.length * 4+4) (pre++zeroVal).length=true:=nble.2 (by rw [List.length_append,hpre];show _≤_+4;omega)
  have b4:allOne (V.agg c).cells=true:=hc1
  have b5:splice (pre++zeroVal) (off+ls.length * 4) (V.agg c).cells=pre++c:=by
   have e:=splice_app_r (a:=pre) (b:=zeroVal) (xs:=c) (k:=0)
   rw [Nat.add_zero,hpre] at e
   show splice _ _ c=_
   rw [e]
   show pre++over c zeroVal=_
   rw [over_all (by rw [hcl];rfl)]
  simp only [wr,ga3',b1,b2,b3,b4,show Nat.beq ver ver=true from nbeq.2 rfl,Bool.and_self,b5]
 -- way two
 have b1n:(hk.alloc (.cells c 0 big)).n=h1.n+2:=by rw [Heap.n_alloc];omega
 obtain ⟨b2,eb2,nb2,gb2,ob2⟩:=happ (hk.alloc (.cells c 0 big)) b1n (fun i hi=>by rw [Heap.get_alloc,if_neg (by have:=lS i hi;omega)]) c hcl
 have fb2:b2.get fid=hk.get fid:=by rw [ob2 fid hne,Heap.get_alloc,if_neg (by omega)]
 obtain ⟨b3,eb3,nb3,gb3,ob3,ofb3⟩:=hwr b2 (.sl id off (ls.length+1) ver 4 false) fb2 (by omega) rfl rfl
 have gb3':b3.get id=some (.cells (pre++c) ver low):=by rw [ob3 id (Ne.symm hne),gb2]
 have Aa2:At a2 (slotP vf j) [f,a,vv,stk]:=by
  have h2:=slot_at (ow_of_get hFk (h':=a2) fun i hi=>by
   rw [hfs] at hi;simp at hi;subst hi
   exact ⟨by omega,fun c w lo e=>⟨lo,by rw [fa2,e]⟩⟩).rs hj
  rwa [hlj] at h2
 have Ab2:At b2 (slotP vf j) [f,a,vv,stk]:=by
  have h2:=slot_at (ow_of_get hFk (h':=b2) fun i hi=>by
   rw [hfs] at hi;simp at hi;subst hi
   exact ⟨by omega,fun c w lo e=>⟨lo,by rw [fb2,e]⟩⟩).rs hj
  rwa [hlj] at h2
 refine w_coin ?_
 rw [hke]
 refine xt_cond_t rfl (xt_seq (xt_reg ?_))
 ·refine t_op rfl rfl ?_
  refine t_op rfl rfl ?_
  refine t_op rfl rfl ?_
  refine t_step (T:=tab.get) (O:=O) rfl (w_load1 (c:=[]) rfl hX13 rfl (w_nil ?_))
  refine t_step (T:=tab.get) (O:=O) rfl (w_nilck rfl hA (w_nil ?_))
  refine t_step (T:=tab.get) (O:=O) rfl (w_fadr rfl hA rfl fun hA3=>w_nil ?_)
  refine t_step (T:=tab.get) (O:=O) rfl (w_load1 (c:=[]) rfl hA3 rfl (w_nil ?_))
  refine t_step (T:=tab.get) (O:=O) rfl (w_loadA rfl (hVk.at hcl) (by rw [hcl];rfl) (w_nil ?_))
  rw [show List.take 4 c=c from List.take_of_length_le (by omega)]
  refine t_step (T:=tab.get) (O:=O) rfl (w_len rfl hSk.rs (w_nil ?_))
  refine t_op rfl (bslice_eq rfl rfl rfl) ?_
  refine t_op (opT_app rfl) (app_new rfl rfl (by rw [Heap.get_alloc,if_pos rfl];rfl) rfl ea2) ?_
  refine t_step (T:=tab.get) (O:=O) rfl (w_nilck rfl Aa2 (w_nil ?_))
  refine t_step (T:=tab.get) (O:=O) rfl (w_fadr rfl Aa2 rfl fun hA3=>w_nil ?_)
  refine t_op (opT_store rfl) (store_eq rfl rfl ea3) ?_
  refine t_nil ⟨_,rfl,xt_reg ?_⟩
  refine t_step (T:=tab.get) (O:=O) rfl (w_iadrS rfl rfl osa3.rs (by simp) (w_nil ?_))
  refine t_op (opT_store rfl) (store_eq rfl rfl ea4) ?_
  refine t_nil ⟨_,rfl,xt_cond_f rfl (xt_reg ?_)⟩
  refine t_op rfl rfl ?_
  refine t_op rfl rfl ?_
  refine t_op rfl rfl ?_
  refine t_step (T:=tab.get) (O:=O) rfl (w_load1 (c:=[]) rfl hX13 rfl (w_nil ?_))
  refine t_op rfl rfl ?_
  refine t_op rfl rfl ?_
  refine t_op rfl rfl ?_
  refine t_step (T:=tab.get) (O:=O) rfl (w_load1 (c:=[]) rfl hX13 rfl (w_nil ?_))
  refine t_step (T:=tab.get) (O:=O) rfl (w_nilck rfl hA (w_nil ?_))
  refine t_step (T:=tab.get) (O:=O) rfl (w_fadr rfl hA rfl fun hA3=>w_nil ?_)
  refine t_step (T:=tab.get) (O:=O) rfl (w_load1 (c:=[]) rfl hA3 rfl (w_nil ?_))
  refine t_step (T:=tab.get) (O:=O) rfl (w_loadA rfl (hVk.at hcl) (by rw [hcl];rfl) (w_nil ?_))
  rw [show List.take 4 c=c from List.take_of_length_le (by omega)]
  refine t_op rfl (bslice_eq rfl hcl hc1) ?_
  refine t_op (opT_app rfl) (app_new rfl rfl (by rw [Heap.get_alloc,if_pos rfl]) hcl eb2) ?_
  have Xb2:At b2 (.ptr x (0+13) 0 14) [slotP vf j]:=by
   have h2:Own b2 x XC:=by
    obtain ⟨g1,lo,g2⟩:=hXk
    refine ⟨by omega,lo,?_⟩
    rw [ob2 x ?_,Heap.get_alloc,if_neg (by have:=hX.1;omega),g2]
    rcases hid with ⟨e,_⟩ | ⟨e,_⟩
    ·have:=hX.1;omega
    ·intro e2;subst e2;exact hxs e
   have h3:=(h2.at hXl).fadr (d:=13) (by omega)
   have h4:XC.drop 13=[slotP vf j]:=by
    rw [nth_eq] at hXp
    obtain ⟨g1,g2⟩:=List.getElem?_eq_some_iff.1 hXp
    rw [List.drop_eq_getElem_cons g1,g2,List.drop_of_length_le (by omega)]
   rwa [h4] at h3
  refine t_step (T:=tab.get) (O:=O) rfl (w_chk1 rfl rfl Xb2 (V.beq_refl _) (w_nil ?_))
  refine t_step (T:=tab.get) (O:=O) rfl (w_nilck rfl Ab2 (w_nil ?_))
  refine t_step (T:=tab.get) (O:=O) rfl (w_fadr rfl Ab2 rfl fun hA3=>w_nil ?_)
  refine t_op (opT_store rfl) (store_eq rfl rfl eb3) ?_
  refine t_nil ⟨_,rfl,?_⟩
  have ga4:(a3.set id (.cells (pre++c) ver (minN low (off+ls.length * 4)))).get id=some (.cells (pre++c) ver (minN low (off+ls.length * 4))):=by rw [Heap.get_set,if_pos rfl]
  have oa4:∀ i,i≠id→(a3.set id (.cells (pre++c) ver (minN low (off+ls.length * 4)))).get i=a3.get i:=fun i hi=>by rw [Heap.get_set,if_neg hi]
  have na4:(a3.set id (.cells (pre++c) ver (minN low (off+ls.length * 4)))).n=n2:=by show a3.n=n2;omega
  generalize a3.set id (.cells (pre++c) ver (minN low (off+ls.length * 4)))=a4 at *
  have fa4:a4.get fid=some (.cells (splice fcs o [.sl id off (ls.length+1) ver 4 false]) fver (minN flow o)):=by rw [oa4 fid hne,ga3];rfl
  have fb3:b3.get fid=some (.cells (splice fcs o [.sl id off (ls.length+1) ver 4 false]) fver (minN flow o)):=by rw [gb3];rfl
  have hwp:ptIds (slotP (.sl id off (ls.length+1) ver 4 false) ls.length)=[id]:=rfl
  refine ⟨by omega,fun i h2 h3=>?_,fun i hi=>?_,fun h' hn' hold hsame=>?_⟩
  ·by_cases e:i=id
   ·subst e;exact ⟨_,_,_,_,_,ga4,gb3'⟩
   ·have e2:i=hk.n:=by rcases hid with ⟨e3,e4⟩ | ⟨e3,e4⟩ <;> omega
    subst e2
    exact ⟨zeroVal,0,big,c,big,by rw [oa4 _ e,oa3 _ (by omega),oa2 _ e,Heap.get_alloc,if_pos rfl],by rw [ob3 _ (by omega),ob2 _ e,Heap.get_alloc,if_pos rfl]⟩
  ·by_cases e:i=id
   ·subst e;exact ⟨_,_,_,_,_,ga4,gb3'⟩
   ·by_cases e2:i=fid
    ·subst e2;exact ⟨_,_,_,_,_,fa4,fb3⟩
    ·have hs:i∈slIds stk:=by
      simp only [hfp,hwp,List.mem_append,List.mem_cons,List.not_mem_nil,or_false,List.append_nil,List.nil_append,e,e2,false_or,or_self] at hi
      exact hi
     obtain ⟨d,v,l,g⟩:=cS i hs
     have:=lS i hs
     exact ⟨d,v,l,d,l,by rw [oa4 _ e,oa3 _ e2,oa2 _ e,Heap.get_alloc,if_neg (by omega),g],by rw [ob3 _ e2,ob2 _ e,Heap.get_alloc,if_neg (by omega),g]⟩
  ·refine w_rt rfl ⟨.sl id off (ls.length+1) ver 4 false,?_,?_,⟨?_,fun i hi hn=>?_⟩,fun i hi=>?_⟩
   ·rw [hlj] at ofb3
    refine ow_of_get ofb3 fun i hi=>?_
    rw [hfs] at hi;simp at hi;subst hi
    refine ⟨by omega,fun d w lo e=>?_⟩
    rw [fb3] at e
    simp only [Option.some.injEq,Am.Obj.cells.injEq] at e
    obtain ⟨rfl,rfl,rfl⟩:=e
    exact hsame _ _ _ _ _ fa4 fb3
   ·obtain ⟨lo,e⟩:=hsame _ _ _ _ _ ga4 gb3'
    exact ow_end (by omega) e hSk.1.2.2.2 hcl hpre hdrop
   ·have:=hE1.1;omega
   ·have hi1:i<h1.n:=by have:=hE1.1;omega
    simp only [List.mem_append,not_or] at hn
    have e:i≠id:=by
     rcases hid with ⟨e3,e4⟩ | ⟨e3,e4⟩
     ·omega
     ·intro e5;subst e5;exact hn.2 e3
    have e2:i≠fid:=fun e5=>hn.1 (by rw [hfs,e5];simp)
    rw [hold i (by omega) ?_,oa4 _ e,oa3 _ e2,oa2 _ e,Heap.get_alloc,if_neg (by omega),← hke,Heap.get_alloc,if_neg (by omega),hE1.2 i hi (by simp)]
    simp only [hfp,hwp,List.mem_append,List.mem_cons,List.not_mem_nil,or_false,List.append_nil,List.nil_append,e,e2,hn.2,false_or,or_self,not_false_eq_true]
   ·simp [slIds] at hi
    subst hi
    rcases hid with ⟨e3,e4⟩ | ⟨e3,e4⟩
    ·have:=hE1.1;exact .inr (by omega)
    ·exact .inl e3
end AmT
namespace AmT
open Go Am
set_option maxRecDepth 100000
set_option maxHeartbeats 4000000
variable {O:CallF}
theorem at13 {h:Heap} {x:Nat} {XC:List V} {p:V} (hX:Own h x XC) (hXl:XC.length=14) (hXp:nth XC 13=some p):At h (.ptr x (0+13) 0 14) [p]:=by
 have h2:=(hX.at hXl).fadr (d:=13) (by omega)
 have h3:XC.drop 13=[p]:=by
  rw [nth_eq] at hXp
  obtain ⟨g1,g2⟩:=List.getElem?_eq_some_iff.1 hXp
  rw [List.drop_eq_getElem_cons g1,g2,List.drop_of_length_le (by omega)]
 rwa [h3] at h2
theorem take_ok (hO:∀ a h,O 193 a h=none) (hC:∀ a h,O 56 a h=none) {h0:Heap} {x j n:Nat} {lf ls:List (List V)} {XC:List V} {vf f a vv stk:V}
  (hX:Own h0 x XC) (hXl:XC.length=14) (hXp:nth XC 13=some (slotP vf j)) (hF:Ow h0 4 vf lf) (hj:j<lf.length) (hlj:lf[j]=[f,a,vv,stk]) (hS:Ow h0 4 stk ls) (hb:ls.length≤200) (hn:n≤ls.length)
  (hd:∀ i∈slIds stk,i∉slIds vf) (hxf:x∉slIds vf) (hxs:x∉slIds stk) :
  WPc tab.get O 193 [.ptr x 0 0 14,.int .i64 (.ofNat n)] h0 (fun r h'=>∃ v stk',r=.tuple [v,.bool true]∧Ow h' 4 v (ls.drop (ls.length - n))∧(∀ i∈slIds v,h0.n≤i)∧Ow h' 4 vf (lf.set j [f,a,vv,stk'])∧Ow h' 4 stk' (ls.take (ls.length - n))∧ExtX (slIds vf) h0 h'∧∀ i∈slIds stk',i∈slIds stk):=by
 refine w_fn' (hO _ _) rfl rfl (by simp only [c193,initV,nth] <;> rfl) ?_
 have hA:=slot_at hF.rs hj
 rw [hlj] at hA
 have hX13:=at13 hX hXl hXp
 have rS:=hS.rs
 have lF:=hF.rs.lt
 repeat' (first|refine w_seq ?_|refine w_reg ?_|refine w_e ?_|refine w_opk rfl rfl ?_)
 refine w_load1 (c:=[]) rfl hX13 rfl ?_
 refine w_nilck rfl hA ?_
 refine w_fadr rfl hA rfl fun hA3=>?_
 refine w_load1 (c:=[]) rfl hA3 rfl ?_
 refine w_len rfl rS ?_
 refine w_opk rfl rfl ?_
 refine w_subN rfl rfl hn (by omega) ?_
 repeat' (first|refine w_seq ?_|refine w_reg ?_|refine w_e ?_|refine w_lssN rfl rfl (fun hc=>?_) (fun hc=>?_)|refine w_opk rfl rfl ?_|refine w_cond_t rfl ?_|refine w_cond_f rfl ?_|refine w_skip ?_)
 ·exact absurd hc (Nat.not_lt_zero _)
 refine w_load1 (c:=[]) rfl hX13 rfl ?_
 refine w_nilck rfl hA ?_
 refine w_fadr rfl hA rfl fun hA4=>?_
 refine w_load1 (c:=[]) rfl hA4 rfl ?_
 refine w_opk rfl rfl ?_
 refine w_slLo rfl rfl hS (Nat.sub_le _ _) fun v1 ho1 hs1=>?_
 refine w_call rfl ((cloneVal_ok hC ho1.rs (by simp;omega)).mono fun v h1 ⟨hv,hE1,nv⟩=>?_)
 replace hX:=hX.ext0 hE1
 replace hF:=hF.ext0 hE1
 replace hS:=hS.ext0 hE1
 replace hA:=slot_at hF.rs hj
 rw [hlj] at hA
 replace hX13:=at13 hX hXl hXp
 repeat' (first|refine w_seq ?_|refine w_reg ?_|refine w_e ?_|refine w_opk rfl rfl ?_)
 refine w_load1 (c:=[]) rfl hX13 rfl ?_
 repeat' (first|refine w_opk rfl rfl ?_)
 refine w_load1 (c:=[]) rfl hX13 rfl ?_
 refine w_nilck rfl hA ?_
 refine w_fadr rfl hA rfl fun hA5=>?_
 refine w_load1 (c:=[]) rfl hA5 rfl ?_
 refine w_opk rfl rfl ?_
 refine w_slHi rfl rfl hS (Nat.sub_le _ _) fun stk' hs' hi'=>?_
 refine w_nilck rfl hA ?_
 refine w_fadr rfl hA rfl fun hA6=>?_
 have o1:=hs'.rs.one
 have lv:=hF.rs.lt
 refine w_storeS rfl rfl hF hj (by rw [V.cells1 o1];rfl) (by decide) (by rw [V.cells1 o1];simp only [allOne,o1]) fun h2 hF2 hE2 hn2=>?_
 rw [V.cells1 o1,hlj] at hF2
 replace hF2:Ow h2 4 vf (lf.set j [f,a,vv,stk']):=hF2
 repeat' (first|refine w_seq ?_|refine w_reg ?_|refine w_e ?_|refine w_opk rfl rfl ?_|refine w_ret ?_|refine w_rt rfl ?_)
 refine ⟨v,stk',rfl,hv.ext hE2 (fun i hi e=>by have:=lF i e;have:=nv i hi;omega),nv,hF2,hs'.ext hE2 (fun i hi e=>hd i (hi' i hi) e),(hE1.mono (by simp)).trans hE2,hi'⟩
end AmT
namespace AmT
open Go Am
set_option maxRecDepth 100000
set_option maxHeartbeats 4000000
variable {O:CallF}
end AmT
namespace AmT
open Go Am
set_option maxRecDepth 100000
set_option maxHeartbeats 4000000
variable {O:CallF}
theorem end_ok (hO:∀ a h,O 245 a h=none) {h0:Heap} {x:Nat} {c0 c1 c2 c3 vf ve a b c tr ro vs fp:V} {over how:Int}
  (hX:Own h0 x [c0,c1,c2,c3,vf,ve,a,b,c,.int .u8 over,tr,ro,vs,fp]) :
  WPc tab.get O 245 [.ptr x 0 0 14,.int .u8 how] h0 (fun _ h'=>Own h' x [c0,c1,c2,c3,.nils,ve,a,b,c,.int .u8 how,tr,ro,vs,fp]∧ExtX [x] h0 h'):=by
 refine w_fn' (hO _ _) rfl rfl (by simp only [c245,initV,nth] <;> rfl) ?_
 repeat' (first|refine w_reg ?_|refine w_opk rfl rfl ?_)
 refine w_store rfl rfl hX rfl rfl (by decide) (by simp) fun h3 hX3 hE3 hn3=>?_
 replace hX3:Own h3 x [c0,c1,c2,c3,vf,ve,a,b,c,.int .u8 how,tr,ro,vs,fp]:=hX3
 clear hX
 repeat' (first|refine w_opk rfl rfl ?_)
 refine w_store rfl rfl hX3 rfl rfl (by decide) (by simp) fun h4 hX4 hE4 hn4=>?_
 replace hX4:Own h4 x [c0,c1,c2,c3,.nils,ve,a,b,c,.int .u8 how,tr,ro,vs,fp]:=hX4
 clear hX3
 repeat' (first|refine w_e ?_|refine w_rt rfl ?_)
 exact ⟨hX4,hE3.trans hE4⟩
end AmT
namespace AmT
open Go Am
set_option maxRecDepth 100000
set_option maxHeartbeats 4000000
variable {O:CallF}
def zeroC:List V:=[.int .u8 1,.int .i64 (.ofNat 0),.str [],.nils]
theorem framed_ok (hO:∀ a h,O 59 a h=none) (hC:∀ a h,O 56 a h=none) {h0:Heap} {c0 c1 c2 c3 v:V} {fns l:List (List V)} {k nv:Nat}
  (hm:allOne [c0,c1,c2,c3]=true) (hf:RS h0 4 c2 fns) (hk:k<fns.length) (hfk:∃ a p r,fns[k]=a :: p :: .int .i64 (.ofNat nv) :: r) (hv:RS h0 4 v l) (hl:l.length≤1000000) (hn:nv≤1000000) :
  WPc tab.get O 59 [.agg [c0,c1,c2,c3],.int .i64 (.ofNat k),v] h0 (fun r h'=>∃ w,r=.agg [.int .i64 (.ofNat k),.int .i64 0,w,.nils]∧Ow h' 4 w (l++List.replicate (nv - l.length) zeroC)∧(∀ j∈slIds w,h0.n≤j)∧Ext h0 h'):=by
 refine w_fn' (hO _ _) rfl rfl (by simp only [c59,initV,nth] <;> rfl) ?_
 refine w_seq (w_reg (w_box rfl rfl hm fun iM h1 hM hiM hE1=>?_))
 refine w_alloc fun iR h2 hR hiR hE2=>?_
 have E2:=hE1.trans hE2
 replace hM:Own h2 iM [c0,c1,c2,c3]:=hM.ext0 hE2
 have hRl:=hR.1
 have n1:=hE1.1
 repeat' (first|refine w_seq ?_|refine w_reg ?_|refine w_e ?_|refine w_opk rfl rfl ?_)
 refine w_call rfl ((cloneVal_ok hC (hv.ext0 E2) (by omega)).mono fun w h3 ⟨hw,hE3,nw⟩=>?_)
 have E3:=E2.trans hE3
 repeat' (first|refine w_seq ?_|refine w_e ?_|refine w_opk rfl rfl ?_)
 refine w_count (fun j vs' h=>∃ w b6,vs'=[.agg [c0,c1,c2,c3],.int .i64 (.ofNat k),v,.ptr iR 0 0 4,w,.ptr iM 0 0 4,b6]∧Ow h 4 w (l++List.replicate j zeroC)∧(∀ i∈slIds w,h2.n≤i)∧Ext h2 h) (nv - l.length) ⟨w,_,rfl,by simpa using hw,nw,hE3⟩ ?_
 rintro j vs' h hj ⟨w,b6,rfl,hw',nw',hE'⟩
 have hM':Own h iM [c0,c1,c2,c3]:=hM.ext0 hE'
 clear hM
 have hf3:=hf.ext0 (E2.trans hE')
 have rw1:=hw'.rs
 obtain ⟨a,p,r,e⟩:=hfk
 have hS:=slot_at hf3 hk
 rw [e] at hS
 have hlen:(l++List.replicate j zeroC).length=l.length+j:=by simp
 repeat' (first|refine w_seq ?_|refine w_reg ?_|refine w_rf rfl (by assumption) (by rfl) (by rfl) (by rfl) ?_|refine w_len rfl (by assumption) ?_|refine w_opk rfl rfl ?_)
 refine w_iadrS rfl rfl hf3 hk ?_
 refine w_fadr rfl hS rfl fun hS2=>?_
 refine w_load1 rfl hS2 rfl ?_
 repeat' (first|refine w_seq ?_|refine w_reg ?_|refine w_e ?_|refine w_lssN rfl rfl (fun hc=>?_) (fun hc=>?_)|refine w_opk rfl rfl ?_|refine w_cond_t rfl ?_|refine w_cond_f rfl ?_|refine w_skip ?_|refine w_exit rfl ?_)
 ·refine w_block ?_
  repeat' (first|refine w_reg ?_|refine w_opk rfl rfl ?_)
  refine w_build [.int .u8 1,.int .i64 (.ofNat 0),.str [],.nils] rfl rfl ?_
  refine w_push (esz:=4) rfl rfl rfl rfl (fun _=>rfl) hw' (by rw [hlen];omega) fun aa w2 h4 o4 f4=>?_
  repeat' (first|refine w_e ?_|refine w_opk rfl rfl ?_)
  refine ⟨by omega,w2,_,rfl,?_,fun i hi=>?_,hE'.step f4.1 fun i hi=>.inr (nw' i hi)⟩
  ·have e5:l++List.replicate (j+1) zeroC=l++List.replicate j zeroC++[zeroC]:=by rw [List.replicate_succ',List.append_assoc]
   rw [e5]
   exact o4
  ·rcases f4.2 i hi with q | q
   ·exact nw' i q
   ·have:=hE'.1;omega
 ·have hj2:j=nv - l.length:=by omega
  subst hj2
  have o1:=hw'.rs.one
  refine w_build [.int .i64 (.ofNat k),.int .i64 0,w,.nils] rfl (by simp only [fillP,V.cells1 o1,allOne,o1];rfl) ?_
  refine w_store rfl rfl (hR.ext0 hE') rfl (by simp only [V.cells,allOne,o1];rfl) (by decide) (by simp) fun h4 hR4 hE4 hn4=>?_
  replace hR4:Own h4 iR [.int .i64 (.ofNat k),.int .i64 0,w,.nils]:=hR4
  repeat' (first|refine w_e ?_|refine w_ret ?_)
  refine w_rt (l:=[.agg [.int .i64 (.ofNat k),.int .i64 0,w,.nils]]) (by
   show resV _ _ [.cell 3 true 4]=_
   have e1:=(hR4.at (hi:=4) rfl).agg (n:=4) (Nat.le_refl 4)
   simp only [resV,nth,e1]
   rfl) ⟨w,rfl,hw'.ext hE4 (fun j hj=>by have:=nw' j hj;simp;omega),fun j hj=>by have:=nw' j hj;have:=E2.1;omega,(E2.trans hE').step hE4 fun jd hjd=>by simp at hjd;exact .inr (by omega)⟩
end AmT
namespace AmT
open Go Am
set_option maxRecDepth 100000
set_option maxHeartbeats 4000000
variable {O:CallF}
theorem mul64_ok (hO:∀ a h,O 263 a h=none) {h0:Heap} {x y:Int} (x0:0≤x) (x1:x<18446744073709551616) (y0:0≤y) (y1:y<18446744073709551616) :
  WPc tab.get O 263 [.int .u64 x,.int .u64 y] h0 (fun v h'=>v=.tuple [.int .u64 (x * y / 18446744073709551616),.int .u64 (x * y % 18446744073709551616)]∧h'=h0):=by
 refine w_fn' (hO _ _) rfl rfl (by simp only [c263,initV,nth] <;> rfl) ?_
 have e1:=halves (x:=x) (y:=y) (x % 4294967296) (x / 4294967296) (y % 4294967296) (y / 4294967296) (by omega) (by omega) rfl rfl rfl rfl
 have b1:=mul_bound (a:=x % 4294967296) (b:=y % 4294967296) (by omega) (by omega) (by omega) (by omega)
 have b2:=mul_bound (a:=x / 4294967296) (b:=y % 4294967296) (by omega) (by omega) (by omega) (by omega)
 have b3:=mul_bound (a:=x % 4294967296) (b:=y / 4294967296) (by omega) (by omega) (by omega) (by omega)
 have b4:=mul_bound (a:=x / 4294967296) (b:=y / 4294967296) (by omega) (by omega) (by omega) (by omega)
 repeat' (first
  | refine w_seq ?_
  | refine w_reg ?_
  | refine w_e ?_
  | refine w_mask rfl rfl (by omega) (by omega) ?_
  | refine w_shr32 rfl rfl ?_
  | refine w_mulU rfl rfl (by omega) (by omega) ?_
  | refine w_mulW rfl rfl ?_
  | refine w_addU rfl rfl (by omega) (by omega) ?_
  | refine w_opk rfl rfl ?_
  | refine w_skip ?_
  | refine w_ret ?_
  | refine w_rt rfl ?_)
 refine ⟨?_,rfl⟩
 show V.tuple [V.int .u64 _,V.int .u64 _]=V.tuple [V.int .u64 _,V.int .u64 _]
 congr 3
 omega
end AmT
namespace AmT
open Go Am
set_option maxRecDepth 100000
set_option maxHeartbeats 4000000
variable {O:CallF}
theorem add_iff {a b:Int} (ha:Am.i64 a) (hb:Am.i64 b):IntKind.i64.wrap ((BitVec.ofInt 64 (IntKind.i64.wrap ((BitVec.ofInt 64 a ^^^ BitVec.ofInt 64 (IntKind.i64.wrap (a+b))).toNat:Int)) &&& BitVec.ofInt 64 (IntKind.i64.wrap ((BitVec.ofInt 64 b ^^^ BitVec.ofInt 64 (IntKind.i64.wrap (a+b))).toNat:Int))).toNat:Int)<0↔(a+b < -9223372036854775808∨9223372036854775807<a+b):=by
 have:=(signs ha hb (wrap_i64 (a+b))).trans (add_over ha hb)
 simpa only [decide_eq_decide] using this
theorem sub_iff {a b:Int} (ha:Am.i64 a) (hb:Am.i64 b):IntKind.i64.wrap ((BitVec.ofInt 64 (IntKind.i64.wrap ((BitVec.ofInt 64 a ^^^ BitVec.ofInt 64 b).toNat:Int)) &&& BitVec.ofInt 64 (IntKind.i64.wrap ((BitVec.ofInt 64 a ^^^ BitVec.ofInt 64 (IntKind.i64.wrap (a - b))).toNat:Int))).toNat:Int)<0↔(a - b < -9223372036854775808∨9223372036854775807<a - b):=by
 have:=(signs4 ha hb ha (wrap_i64 (a - b))).trans (sub_over ha hb)
 simpa only [decide_eq_decide] using this
theorem fit_over {e:Int} (h:e < -9223372036854775808∨9223372036854775807<e):fit e=(0,4):=if_pos h
theorem fit_in {e:Int} (h:¬(e < -9223372036854775808∨9223372036854775807<e)):fit e=(IntKind.i64.wrap e,0):=by
 rw [fit,if_neg h,wrap_i64_of (by omega) (by omega)]
theorem div0 {o a b:Int} (ho:o=7∨o=8) (hb:b=0):arithT o a b=(0,3):=by
 rw [arithT,if_neg (by omega),if_neg (by omega),if_neg (by omega),if_pos hb]
theorem tdiv_in {a b:Int} (ha:Am.i64 a) (h0:b≠0) (h:¬(b = -1∧a = -9223372036854775808)):¬(a.tdiv b < -9223372036854775808∨9223372036854775807<a.tdiv b):=by
 obtain ⟨a1,a2⟩:=ha
 by_cases hb:b = -1
 ·subst hb
  have:a.tdiv (-1) = -a:=by rw [Int.tdiv_neg,Int.tdiv_one]
  omega
 ·have h1:(a.tdiv b).natAbs=a.natAbs / b.natAbs:=Int.natAbs_tdiv a b
  by_cases hb1:b=1
  ·subst hb1
   rw [Int.tdiv_one];omega
  ·have h2:2≤b.natAbs:=by omega
   have h3:a.natAbs / b.natAbs≤a.natAbs / 2:=Nat.div_le_div_left h2 (by decide)
   omega
theorem divMin {o a b:Int} (ho:o=7) (hb:b = -1) (hm:a = -9223372036854775808):arithT o a b=(0,4):=by
 subst ho hb hm
 rfl
theorem divNeg {o a b:Int} (ha:Am.i64 a) (ho:o=7) (hb:b = -1) (hm:a≠-9223372036854775808):arithT o a b=(IntKind.i64.wrap (0 - a),0):=by
 have e:a.tdiv b=0 - a:=by rw [hb,Int.tdiv_neg,Int.tdiv_one];omega
 rw [arithT,if_neg (by omega),if_neg (by omega),if_neg (by omega),if_neg (by omega),if_pos ho,fit_in (tdiv_in ha (by omega) (by omega)),e]
theorem divQ {o a b:Int} (ha:Am.i64 a) (ho:o=7) (h0:b≠0) (hb:b≠-1):arithT o a b=(IntKind.i64.wrap (a.tdiv b),0):=by
 rw [arithT,if_neg (by omega),if_neg (by omega),if_neg (by omega),if_neg h0,if_pos ho,fit_in (tdiv_in ha h0 (by omega))]
theorem modN {o a b:Int} (ho:o=8) (hb:b = -1):arithT o a b=(0,0):=by
 have e:a.tmod (-1)=0:=by rw [Int.tmod_neg,Int.tmod_one]
 rw [arithT,if_neg (by omega),if_neg (by omega),if_neg (by omega),if_neg (by omega),if_neg (by omega),hb,e]
theorem modQ {o a b:Int} (ho:o=8) (h0:b≠0):arithT o a b=(a.tmod b,0):=by
 rw [arithT,if_neg (by omega),if_neg (by omega),if_neg (by omega),if_neg h0,if_neg (by omega)]
theorem arith_ok (hM:∀ a h,O 263 a h=none) (hO:∀ a h,O 250 a h=none) {h0:Heap} {o a b:Int} (ho:4≤o∧o≤8) (ha:Am.i64 a) (hb:Am.i64 b) :
  WPc tab.get O 250 [.int .u8 o,.int .i64 a,.int .i64 b] h0 (fun v h'=>v=.tuple [.int .i64 (arithT o a b).1,.int .i64 (arithT o a b).2]∧h'=h0):=by
 refine w_fn' (hO _ _) rfl rfl (by simp only [c250,initV,nth] <;> rfl) ?_
 repeat' (first|refine w_seq ?_|refine w_reg ?_|refine w_e ?_|refine w_opk rfl rfl ?_)
 refine w_block ?_
 repeat' (first|refine w_seq ?_|refine w_reg ?_|refine w_e ?_|refine w_lss rfl rfl (fun hc=>?_) (fun hc=>?_)|refine w_eql rfl rfl (fun hc=>?_) (fun hc=>?_)|refine w_xorX rfl rfl ?_|refine w_andX rfl rfl ?_|refine w_addW rfl rfl ?_|refine w_subW rfl rfl ?_|refine w_opk rfl rfl ?_|refine w_cond_t rfl ?_|refine w_cond_f rfl ?_|refine w_skip ?_|refine w_ret ?_|refine w_rt rfl ?_)
 ·have e:arithT o a b=(0,4):=by
   have h4:o=4:=by assumption
   rw [arithT,if_pos h4];exact fit_over ((add_iff ha hb).1 hc)
  rw [e];exact ⟨rfl,rfl⟩
 ·have e:arithT o a b=(IntKind.i64.wrap (a+b),0):=by
   have h4:o=4:=by assumption
   rw [arithT,if_pos h4];exact fit_in fun h=>absurd ((add_iff ha hb).2 h) (Int.not_lt.2 hc)
  rw [e];exact ⟨rfl,rfl⟩
 ·have e:arithT o a b=(0,4):=by
   have h4:o=5:=by assumption
   rw [arithT,if_neg (by omega),if_pos h4];exact fit_over ((sub_iff ha hb).1 hc)
  rw [e];exact ⟨rfl,rfl⟩
 ·have e:arithT o a b=(IntKind.i64.wrap (a - b),0):=by
   have h4:o=5:=by assumption
   rw [arithT,if_neg (by omega),if_pos h4];exact fit_in fun h=>absurd ((sub_iff ha hb).2 h) (Int.not_lt.2 hc)
  rw [e];exact ⟨rfl,rfl⟩
 ·have h6:o=6:=by assumption
  have ea:=wrap_u64 a
  have eb:=wrap_u64 b
  refine w_call rfl ((mul64_ok hM (by omega) (by omega) (by omega) (by omega)).mono fun v' h1 ⟨e1,e2⟩=>?_)
  subst e1 e2
  rw [ea,eb]
  obtain ⟨s1,s2⟩:=signed_hi ha hb rfl rfl
  have eT:arithT o a b=fit (a * b):=by rw [arithT,if_neg (by omega),if_neg (by omega),if_pos h6]
  rw [eT]
  have hpr:=prod_range ha hb
  generalize hP:a % 18446744073709551616 * (b % 18446744073709551616)=P at *
  generalize hp:a * b=p at *
  repeat' (first|refine w_seq ?_|refine w_reg ?_|refine w_e ?_|refine w_lss rfl rfl (fun hc=>?_) (fun hc=>?_)|refine w_neq rfl rfl (fun hc=>?_) (fun hc=>?_)|refine w_subW rfl rfl ?_|refine w_shr63 rfl rfl ?_|refine w_opk rfl rfl ?_|refine w_cond_t rfl ?_|refine w_cond_f rfl ?_|refine w_skip ?_|refine w_ret ?_|refine w_rt rfl ?_)
  all_goals
   have hn:=wrap_mod s1
   have q1:a<0∨0≤a:=by omega
   have q2:b<0∨0≤b:=by omega
   simp only [wrap_sub,hn] at hc ⊢
  all_goals first
   | rw [if_pos (by assumption),if_pos (by assumption)] at s2
   | rw [if_pos (by assumption),if_neg (Int.not_lt.2 (by assumption)),Int.sub_zero] at s2
   | rw [if_neg (Int.not_lt.2 (by assumption)),Int.sub_zero,if_pos (by assumption)] at s2
   | rw [if_neg (Int.not_lt.2 (by assumption)),Int.sub_zero,if_neg (Int.not_lt.2 (by assumption)),Int.sub_zero] at s2
  all_goals
   have hS:=wrap_to s2 hpr
   rw [hS] at hc
  all_goals first
   | (have e:fit p=(0,4):=fit_over ((mul_over rfl rfl).1 hc)
      rw [e];exact ⟨rfl,trivial⟩)
   | (have e:fit p=(IntKind.i64.wrap p,0):=fit_in fun h=>(mul_over rfl rfl).2 h hc
      rw [e];exact ⟨rfl,trivial⟩)
 ·have h7:o=7:=by assumption
  refine w_block ?_
  repeat' (first|refine w_seq ?_|refine w_reg ?_|refine w_e ?_|refine w_off rfl ?_|refine w_on rfl ?_|refine w_eql rfl rfl (fun hc=>?_) (fun hc=>?_)|refine w_quoW rfl rfl (by assumption) ?_|refine w_remW rfl rfl (by assumption) ?_|refine w_opk rfl rfl ?_|refine w_cond_t rfl ?_|refine w_cond_f rfl ?_|refine w_skip ?_|refine w_ret ?_|refine w_rt rfl ?_)
  all_goals first
   | exact absurd (show o=7 by assumption) (show o≠7 by assumption)
   | exact absurd (show b = -1 by assumption) (show b≠-1 by assumption)
   | (rw [div0 (.inl h7) (by assumption)];exact ⟨rfl,rfl⟩)
   | (rw [divMin (by assumption) (by assumption) (by assumption)];exact ⟨rfl,rfl⟩)
   | (rw [divNeg ha (by assumption) (by assumption) (by assumption)];exact ⟨rfl,rfl⟩)
   | (rw [divQ ha (by assumption) (by assumption) (by assumption)];exact ⟨rfl,rfl⟩)
   | (rw [modN (by assumption) (by assumption)];exact ⟨rfl,rfl⟩)
   | (rw [modQ (by assumption) (by assumption)];exact ⟨rfl,rfl⟩)
   | omega
 ·have h8:o=8:=by assumption
  have h87:o≠7:=by omega
  refine w_block ?_
  repeat' (first|refine w_seq ?_|refine w_reg ?_|refine w_e ?_|refine w_off rfl ?_|refine w_on rfl ?_|refine w_eql rfl rfl (fun hc=>?_) (fun hc=>?_)|refine w_quoW rfl rfl (by assumption) ?_|refine w_remW rfl rfl (by assumption) ?_|refine w_opk rfl rfl ?_|refine w_cond_t rfl ?_|refine w_cond_f rfl ?_|refine w_skip ?_|refine w_ret ?_|refine w_rt rfl ?_)
  all_goals first
   | exact absurd (show o=7 by assumption) (show o≠7 by assumption)
   | exact absurd (show b = -1 by assumption) (show b≠-1 by assumption)
   | (rw [div0 (.inr h8) (by assumption)];exact ⟨rfl,rfl⟩)
   | (rw [divMin (by assumption) (by assumption) (by assumption)];exact ⟨rfl,rfl⟩)
   | (rw [divNeg ha (by assumption) (by assumption) (by assumption)];exact ⟨rfl,rfl⟩)
   | (rw [divQ ha (by assumption) (by assumption) (by assumption)];exact ⟨rfl,rfl⟩)
   | (rw [modN (by assumption) (by assumption)];exact ⟨rfl,rfl⟩)
   | (rw [modQ (by assumption) (by assumption)];exact ⟨rfl,rfl⟩)
   | omega
 ·have g4:o≠4:=by assumption
  have g5:o≠5:=by assumption
  have g6:o≠6:=by assumption
  have g7:o≠7:=by assumption
  have g8:o≠8:=by assumption
  exfalso;omega
end AmT
namespace AmT
open Go Am
set_option maxRecDepth 100000
set_option maxHeartbeats 8000000
variable {O:CallF}
structure OffVR (O:CallF):Prop where
 r1:∀ a h,O 136 a h=none
 ri:∀ a h,O 76 a h=none
def RtI (C0:Prop) (lv left:Nat) (l:List Val) (j:Nat) (b:Bool) (x:Int):Prop:=
 (b=true→C0∧okVs lv (l.take j)∧pcss (l.take j)≤left∧x=Int.ofNat (left - pcss (l.take j)))∧(C0→okVs lv (l.take j)→pcss (l.take j)≤left→b=true)
theorem okVs_snoc {lv:Nat} {a:Val} : ∀ {l:List Val},okVs lv (l++[a])↔okVs lv l∧okV lv a
 | []=>by simp only [List.nil_append,okVs,and_true,true_and]
 | b :: l=>by simp only [List.cons_append,okVs,okVs_snoc,and_assoc]
theorem pcss_snoc {a:Val} : ∀ {l:List Val},pcss (l++[a])=pcss l+pcs a
 | []=>by simp only [List.nil_append,pcss];omega
 | b :: l=>by simp only [List.cons_append,pcss,pcss_snoc];omega
theorem okV_ar {lv:Nat} {k n:Int} {s:List UInt8} {l:List Val} (h1 : -9223372036854775808≤n) (h2:n<9223372036854775808) (h4:k≠4) :
  okV lv (.mk k n s l)↔0<lv∧(k=1∧s.length=0∧l.length=0∨k=2∧(n=0∨n=1)∧s.length=0∧l.length=0∨k=3∧n=0∧s.length≤4096∧l.length=0∨k=5∧0≤n∧s.length=0∧l.length=0):=by
 unfold okV
 simp only [List.length_eq_zero_iff]
 constructor
 ·rintro ⟨h,h3⟩
  refine ⟨h,?_⟩
  rcases h3 with ⟨a,_,_,b,c⟩ | ⟨a,b,c,d⟩ | ⟨a,b,c,d⟩ | ⟨a,_⟩ | ⟨a,b,_,c,d⟩
  ·exact .inl ⟨a,b,c⟩
  ·exact .inr (.inl ⟨a,b,c,d⟩)
  ·exact .inr (.inr (.inl ⟨a,b,c,d⟩))
  ·exact absurd a h4
  ·exact .inr (.inr (.inr ⟨a,b,c,d⟩))
 ·rintro ⟨h,h3⟩
  refine ⟨h,?_⟩
  rcases h3 with ⟨a,b,c⟩ | ⟨a,b,c,d⟩ | ⟨a,b,c,d⟩ | ⟨a,b,c,d⟩
  ·exact .inl ⟨a,h1,h2,b,c⟩
  ·exact .inr (.inl ⟨a,b,c,d⟩)
  ·exact .inr (.inr (.inl ⟨a,b,c,d⟩))
  ·exact .inr (.inr (.inr (.inr ⟨a,b,h2,c,d⟩)))
def PlainV (lv left:Nat) (k n:Int) (sl ll:Nat):Prop:=
 Int.ofNat 0≤(left:Int) - 1∧0<lv∧ll=0∧(k=Int.ofNat 1∧sl=0∨k=Int.ofNat 2∧(n=Int.ofNat 0∨n=Int.ofNat 1)∧sl=0∨k=Int.ofNat 3∧n=Int.ofNat 0∧sl≤4096∨k=Int.ofNat 5∧Int.ofNat 0≤n∧sl=0)
theorem plainV {lv left:Nat} {k n:Int} {s:List UInt8} {l:List Val} {ll:Nat} (hll:ll=l.length) (h1 : -9223372036854775808≤n) (h2:n<9223372036854775808) (h4:k≠4) :
  (PlainV lv left k n s.length ll→okV lv (.mk k n s l)∧pcs (.mk k n s l)≤left∧(left:Int) - 1=Int.ofNat (left - pcs (.mk k n s l)))∧
  (okV lv (.mk k n s l)→pcs (.mk k n s l)≤left→PlainV lv left k n s.length ll):=by
 subst hll
 have z0:Int.ofNat 0=0:=rfl
 have z1:Int.ofNat 1=1:=rfl
 have z2:Int.ofNat 2=2:=rfl
 have z3:Int.ofNat 3=3:=rfl
 have z5:Int.ofNat 5=5:=rfl
 have hpl:=pcss_len l
 have hp0:l.length=0→pcss l=0:=fun e=>by rw [List.length_eq_zero_iff.1 e];rfl
 rw [okV_ar h1 h2 h4]
 have e3:Int.ofNat (left - (1+pcss l))=((left - (1+pcss l):Nat):Int):=rfl
 simp only [PlainV,pcs,e3,z0,z1,z2,z3,z5]
 constructor
 ·rintro ⟨g1,g2,g3,g4⟩
  have:=hp0 g3
  exact ⟨⟨g2,by omega⟩,by omega,by omega⟩
 ·rintro ⟨g1,g2⟩ g3
  exact ⟨by omega,by omega,by omega,by omega⟩
theorem vr_plain (hO:OffVR O) {Z:Nat→Prop} {k n:Int} {s:List UInt8} {l:List Val} {h0:Heap} {c:List V} {i2 i3 lv left:Nat} (hv:VaR Z h0 (.mk k n s l) c) (ht:RngV (.mk k n s l)) (h2:Own h0 i2 [.int .i64 (.ofNat left)]) (h3:Own h0 i3 [.fn 136 [] [.ptr i2 0 0 1,.ptr i3 0 0 1]]) (hne:i2≠i3) (hZ:¬ Z i2) (hl:left≤256) (hlv:lv≤16) (hk4:k≠4) :
  WPc tab.get O 136 [.agg c,.int .i64 (.ofNat lv),.ptr i2 0 0 1,.ptr i3 0 0 1] h0 (fun v h'=>∃ b x,v=.bool b∧Own h' i2 [.int .i64 x]∧ExtX [i2] h0 h'∧(b=true→okV lv (.mk k n s l)∧pcs (.mk k n s l)≤left∧x=Int.ofNat (left - pcs (.mk k n s l)))∧(okV lv (.mk k n s l)→pcs (.mk k n s l)≤left→b=true)):=by
 refine w_fn' (hO.r1 _ _) rfl rfl (by simp only [c136,initV,nth] <;> rfl) ?_
 have hs:=hv.shape
 have hi2:=h2.1
 refine w_seq (w_reg (w_box rfl hs.1 hs.2 fun i5 h1 hB hiB hE1=>?_))
 replace hB:Own h1 i5 c:=hB
 replace hv:=hv.ext0 hE1
 replace h2:=h2.ext0 hE1
 replace h3:=h3.ext0 hE1
 have m1:=hE1.1
 unfold VaR at hv
 obtain ⟨tv,lc,rfl,rt,hl2⟩:=hv
 have hlen:=hl2.len
 have r1:=rt.1
 unfold RngV at ht
 repeat' (first|refine w_seq ?_|refine w_reg ?_|refine w_e ?_|refine w_fl rfl (by assumption) (by rfl) (by rfl) (by rfl) ?_|refine w_opk rfl rfl ?_)
 have hw:wrapK .i64 (Int.ofNat left - Int.ofNat 1)=(left:Int) - 1:=by
  rw [wrapK_eq]
  exact wrap_i64_of (by have:Int.ofNat left - Int.ofNat 1=(left:Int) - 1:=rfl;omega) (by have:Int.ofNat left - Int.ofNat 1=(left:Int) - 1:=rfl;omega)
 rw [hw]
 refine w_store rfl rfl h2 rfl rfl (by decide) (by simp) fun h6 k2 y6 z6=>?_
 replace k2:Own h6 i2 [.int .i64 ((left:Int) - 1)]:=k2
 have hB6:=hB.ext y6 (by simp;omega)
 have h36:=h3.ext y6 (by simp;exact fun e=>hne e.symm)
 have r6:=r1.ext y6 fun id off len ver e f hv=>by
  simp only [List.mem_singleton]
  exact fun hm=>hZ (hm▸rt.2 id (by rw [hv];simp [slIds]))
 have E6:ExtX [i2] h0 h6:=(hE1.mono (by simp)).trans y6
 clear h2 hB r1 h3 hE1 hs
 have hpl:=pcss_len l
 have hp0:l.length=0→pcss l=0:=fun e=>by rw [List.length_eq_zero_iff.1 e];rfl
 have hpv:=fun s=>plainV (lv:=lv) (left:=left) (s:=s) hlen ht.1 ht.2.1 hk4
 clear hpl hp0
 rcases s with _ | ⟨s0,s1⟩
 all_goals (repeat' (first|refine w_seq ?_|refine w_reg ?_|refine w_e ?_|refine w_off rfl ?_|refine w_rf rfl (by assumption) (by rfl) (by rfl) (by rfl) ?_|refine w_rfg rfl rfl (by assumption) (by rfl) (by rfl) (by rfl) (by rfl) ?_|refine w_fl rfl (by assumption) (by rfl) (by rfl) (by rfl) ?_|refine w_on rfl ?_|refine w_len rfl (by assumption) ?_|refine w_gtrN rfl rfl (fun hc=>?_) (fun hc=>?_)|refine w_eqlN rfl rfl (fun hc=>?_) (fun hc=>?_)|refine w_geq rfl rfl (fun hc=>?_) (fun hc=>?_)|refine w_opk rfl rfl ?_))
 all_goals refine w_block ?_
 all_goals (repeat' (first|refine w_seq ?_|refine w_reg ?_|refine w_e ?_|refine w_off rfl ?_|refine w_rf rfl (by assumption) (by rfl) (by rfl) (by rfl) ?_|refine w_rfg rfl rfl (by assumption) (by rfl) (by rfl) (by rfl) (by rfl) ?_|refine w_on rfl ?_|refine w_len rfl (by assumption) ?_|refine w_leqN rfl rfl (fun hc=>?_) (fun hc=>?_)|refine w_eqlN rfl rfl (fun hc=>?_) (fun hc=>?_)|refine w_geq rfl rfl (fun hc=>?_) (fun hc=>?_)|refine w_eql rfl rfl (fun hc=>?_) (fun hc=>?_)|refine w_opk rfl rfl ?_|refine w_cond_t rfl ?_|refine w_cond_f rfl ?_|refine w_skip ?_|refine w_ret ?_|refine w_rt rfl ?_))
 all_goals first
  | exact absurd (by assumption) hk4
  | skip
 all_goals refine ⟨_,_,rfl,k2,E6,fun hb=>?_,fun hok hp=>?_⟩
 all_goals first
  | (cases hb;done)
  | rfl
  | exact (hpv _).1 ⟨by assumption,by assumption,by assumption,by simp_all⟩
  | (have hq:=(hpv _).2 hok hp;unfold PlainV at hq;exfalso;simp_all;done)
  | (have hq:=(hpv _).2 hok hp;unfold PlainV at hq;exfalso;simp_all;omega)
  | skip
end AmT
namespace AmT
open Go Am
set_option maxRecDepth 100000
set_option maxHeartbeats 8000000
variable {O:CallF}
theorem okV_4 {lv:Nat} {n:Int} {s:List UInt8} {l:List Val} : okV lv (.mk 4 n s l)↔0<lv∧n=0∧s.length=0∧okVs (lv - 1) l:=by
 unfold okV
 simp only [List.length_eq_zero_iff]
 constructor
 ·rintro ⟨h,h3⟩
  rcases h3 with ⟨a,_⟩ | ⟨a,_⟩ | ⟨a,_⟩ | ⟨_,a,b,c⟩ | ⟨a,_⟩
  ·exact absurd a (by decide)
  ·exact absurd a (by decide)
  ·exact absurd a (by decide)
  ·exact ⟨h,a,b,c⟩
  ·exact absurd a (by decide)
 ·rintro ⟨h,a,b,c⟩
  exact ⟨h,.inr (.inr (.inr (.inl ⟨by trivial,a,b,c⟩)))⟩
theorem RtI.no {C0:Prop} {lv left:Nat} {l:List Val} {j:Nat} {x:Int} (k:RtI C0 lv left l j false x) (hj:j<l.length):RtI C0 lv left l (j+1) false x:=by
 unfold RtI at *
 refine ⟨(fun e=>by cases e),fun c o p=>?_⟩
 rw [(List.take_append_getElem hj).symm,okVs_snoc] at o
 rw [(List.take_append_getElem hj).symm,pcss_snoc] at p
 exact k.2 c o.1 (by omega)
theorem RtI.yes {C0:Prop} {lv left:Nat} {l:List Val} {j:Nat} {x y:Int} {b:Bool} (k:RtI C0 lv left l j true x) (hj:j<l.length)
  (h1:b=true→okV lv l[j]∧pcs l[j]≤left - pcss (l.take j)∧y=Int.ofNat (left - pcss (l.take j) - pcs l[j])) (h2:okV lv l[j]→pcs l[j]≤left - pcss (l.take j)→b=true):RtI C0 lv left l (j+1) b y:=by
 unfold RtI at *
 obtain ⟨c,o,p,e⟩:=k.1 rfl
 rw [(List.take_append_getElem hj).symm,okVs_snoc,pcss_snoc]
 refine ⟨fun hb=>?_,fun _ o2 p2=>h2 o2.2 (by omega)⟩
 obtain ⟨q1,q2,q3⟩:=h1 hb
 refine ⟨c,⟨o,q1⟩,by omega,?_⟩
 rw [q3]
 congr 1
 omega
theorem vr_tuple (hO:OffVR O) {Z:Nat→Prop} {n:Int} {s:List UInt8} {l:List Val} {h0:Heap} {c:List V} {i2 i3 lv left:Nat} (hv:VaR Z h0 (.mk 4 n s l) c) (ht:RngV (.mk 4 n s l)) (h2:Own h0 i2 [.int .i64 (.ofNat left)]) (h3:Own h0 i3 [.fn 136 [] [.ptr i2 0 0 1,.ptr i3 0 0 1]]) (hne:i2≠i3) (hZ:¬ Z i2) (hl:left≤256) (hlv:lv≤16)
  (ih:∀ a∈l,∀ {h0:Heap} {c:List V} {lv left:Nat},VaR Z h0 a c→RngV a→Own h0 i2 [.int .i64 (.ofNat left)]→Own h0 i3 [.fn 136 [] [.ptr i2 0 0 1,.ptr i3 0 0 1]]→left≤256→lv≤16→WPc tab.get O 136 [.agg c,.int .i64 (.ofNat lv),.ptr i2 0 0 1,.ptr i3 0 0 1] h0 (fun v h'=>∃ b x,v=.bool b∧Own h' i2 [.int .i64 x]∧ExtX [i2] h0 h'∧(b=true→okV lv a∧pcs a≤left∧x=Int.ofNat (left - pcs a))∧(okV lv a→pcs a≤left→b=true))) :
  WPc tab.get O 136 [.agg c,.int .i64 (.ofNat lv),.ptr i2 0 0 1,.ptr i3 0 0 1] h0 (fun v h'=>∃ b x,v=.bool b∧Own h' i2 [.int .i64 x]∧ExtX [i2] h0 h'∧(b=true→okV lv (.mk 4 n s l)∧pcs (.mk 4 n s l)≤left∧x=Int.ofNat (left - pcs (.mk 4 n s l)))∧(okV lv (.mk 4 n s l)→pcs (.mk 4 n s l)≤left→b=true)):=by
 refine w_fn' (hO.r1 _ _) rfl rfl (by simp only [c136,initV,nth] <;> rfl) ?_
 have hs:=hv.shape
 have hi2:=h2.1
 refine w_seq (w_reg (w_box rfl hs.1 hs.2 fun i5 h1 hB hiB hE1=>?_))
 replace hB:Own h1 i5 c:=hB
 replace hv:=hv.ext0 hE1
 replace h2:=h2.ext0 hE1
 replace h3:=h3.ext0 hE1
 have m1:=hE1.1
 unfold VaR at hv
 obtain ⟨tv,lc,rfl,rt,hl2⟩:=hv
 have hlen:=hl2.len
 have r1:=rt.1
 unfold RngV at ht
 repeat' (first|refine w_seq ?_|refine w_reg ?_|refine w_e ?_|refine w_fl rfl (by assumption) (by rfl) (by rfl) (by rfl) ?_|refine w_opk rfl rfl ?_)
 have hw:wrapK .i64 (Int.ofNat left - Int.ofNat 1)=(left:Int) - 1:=by
  rw [wrapK_eq]
  exact wrap_i64_of (by have:Int.ofNat left - Int.ofNat 1=(left:Int) - 1:=rfl;omega) (by have:Int.ofNat left - Int.ofNat 1=(left:Int) - 1:=rfl;omega)
 rw [hw]
 refine w_store rfl rfl h2 rfl rfl (by decide) (by simp) fun h6 k2 y6 z6=>?_
 replace k2:Own h6 i2 [.int .i64 ((left:Int) - 1)]:=k2
 have hB6:=hB.ext y6 (by simp;omega)
 have h36:=h3.ext y6 (by simp;exact fun e=>hne e.symm)
 have r6:=r1.ext y6 fun id off len ver e f hv=>by
  simp only [List.mem_singleton]
  exact fun hm=>hZ (hm▸rt.2 id (by rw [hv];simp [slIds]))
 have E6:ExtX [i2] h0 h6:=(hE1.mono (by simp)).trans y6
 clear h2 hB r1 h3 hE1 hs
 have hpl:=pcss_len l
 have hp0:l.length=0→pcss l=0:=fun e=>by rw [List.length_eq_zero_iff.1 e];rfl
 have z0:Int.ofNat 0=0:=rfl
 obtain ⟨q,hq⟩:∃ q,iEq n (Int.ofNat 0)=q:=⟨_,rfl⟩
 have hqn:q=true↔n=0:=by rw [← hq,iEq_eq];exact decide_eq_true_iff
 obtain ⟨C0,hC0⟩:∃ C0:Prop,(C0↔0<lv∧1≤left∧n=0∧s.length=0):=⟨_,Iff.rfl⟩
 have hfin:=okV_4 (lv:=lv) (n:=n) (s:=s) (l:=l)
 have hpc:pcs (.mk 4 n s l)=1+pcss l:=rfl
 rcases s with _ | ⟨s0,s1⟩
 all_goals (repeat' (first|refine w_seq ?_|refine w_reg ?_|refine w_e ?_|refine w_off rfl ?_|refine w_rf rfl (by assumption) (by rfl) (by rfl) (by rfl) ?_|refine w_rfg rfl rfl (by assumption) (by rfl) (by rfl) (by rfl) (by rfl) ?_|refine w_fl rfl (by assumption) (by rfl) (by rfl) (by rfl) ?_|refine w_on rfl ?_|refine w_len rfl (by assumption) ?_|refine w_gtrN rfl rfl (fun hc=>?_) (fun hc=>?_)|refine w_eqlN rfl rfl (fun hc=>?_) (fun hc=>?_)|refine w_geq rfl rfl (fun hc=>?_) (fun hc=>?_)|refine w_opk rfl rfl ?_))
 all_goals refine w_block ?_
 all_goals (repeat' (first|refine w_seq ?_|refine w_reg ?_|refine w_e ?_|refine w_off rfl ?_|refine w_rf rfl (by assumption) (by rfl) (by rfl) (by rfl) ?_|refine w_rfg rfl rfl (by assumption) (by rfl) (by rfl) (by rfl) (by rfl) ?_|refine w_on rfl ?_|refine w_len rfl (by assumption) ?_|refine w_opk rfl rfl ?_|refine w_cond_t rfl ?_|refine w_cond_f rfl ?_))
 all_goals first
  | (rw [hq];cases q)
  | skip
 all_goals (repeat' (first|refine w_seq ?_|refine w_reg ?_|refine w_e ?_|refine w_off rfl ?_|refine w_rf rfl (by assumption) (by rfl) (by rfl) (by rfl) ?_|refine w_rfg rfl rfl (by assumption) (by rfl) (by rfl) (by rfl) (by rfl) ?_|refine w_on rfl ?_|refine w_len rfl (by assumption) ?_|refine w_opk rfl rfl ?_))
 all_goals refine w_count (fun j vs h=>∃ b x c0 c7 c9 c10 c11 c12 c13 c16 c18,vs=[c0,.int .i64 (.ofNat lv),.ptr i2 0 0 1,.ptr i3 0 0 1,.bool false,.ptr i5 0 0 4,.int .u8 4,c7,.bool b,c9,c10,c11,c12,c13,.int .i64 (.ofNat j),.int .i64 (.ofNat lc.length),c16,tv,c18]∧Own h i2 [.int .i64 x]∧ExtX [i2] h6 h∧RtI C0 (lv - 1) (left - 1) l j b x) lc.length ⟨_,_,_,_,_,_,_,_,_,_,_,rfl,k2,ExtX.refl _ _,?_⟩ ?_
 all_goals first
  | (refine ⟨fun _=>⟨hC0.2 ⟨by omega,by omega,by simp_all,by simp⟩,by unfold List.take okVs;trivial,Nat.zero_le _,?_⟩,fun _ _ _=>rfl⟩
     show (left:Int) - 1=((left - 1 - 0:Nat):Int)
     omega)
  | (refine ⟨(fun e=>by cases e),fun hc0 _ _=>?_⟩
     exfalso
     have hc1:=hC0.1 hc0
     simp only [List.length_cons,List.length_nil] at hc1
     first | omega | simp_all)
  | skip
 all_goals (
  rintro j vs h hj ⟨b,x,c0,c7,c9,c10,c11,c12,c13,c16,c18,rfl,q2,qE,qR⟩
  have htl:=ht.2.2.1
  have hzs:∀ i,Z i→i∉[i2]:=fun i hz hm=>by simp only [List.mem_singleton] at hm;exact hZ (hm▸hz)
  have r8:=r6.ext qE fun id off len ver e f hv=>hzs id (rt.2 id (by rw [hv];simp [slIds]))
  have h38:=h36.ext qE (by simp;exact fun e=>hne e.symm)
  repeat' (first|refine w_seq ?_|refine w_reg ?_|refine w_e ?_|refine w_lssN rfl rfl (fun hc=>?_) (fun hc=>?_)|refine w_opk rfl rfl ?_|refine w_cond_t rfl ?_|refine w_cond_f rfl ?_|refine w_skip ?_|refine w_exit rfl ?_|refine w_ret ?_|refine w_rt rfl ?_)
  ·have hj1:j<lc.length:=by assumption
   have hj2:j<l.length:=by omega
   have va8:VaR Z h l[j] lc[j]:=((hl2.get hj2 hj1).ext y6 hzs fun _ z _=>z).ext qE hzs fun _ z _=>z
   have hsh:=va8.shape
   refine w_block ?_
   repeat' (first|refine w_seq ?_|refine w_reg ?_)
   refine w_iadrS rfl rfl r8 hj1 ?_
   refine w_loadA rfl (slot_at r8 hj1) (by rw [hsh.1];rfl) ?_
   rw [show List.take 4 lc[j]=lc[j] from List.take_of_length_le (by omega)]
   refine w_new (fun p=>rfl) hsh.1 rfl hsh.2 fun iX h9 hX hiX hE9=>?_
   replace hX:Own h9 iX lc[j]:=hX
   have h39:=h38.ext0 hE9
   have E9:ExtX [i2] h6 h9:=qE.trans (hE9.mono (by simp))
   clear h38 h36
   cases b with
   | false=>
    repeat' (first|refine w_reg ?_|refine w_e ?_|refine w_off rfl ?_|refine w_addN rfl rfl (by omega) ?_|refine w_opk rfl rfl ?_)
    exact ⟨hj1,false,x,_,_,_,_,_,_,_,_,_,rfl,q2.ext0 hE9,E9,qR.no hj2⟩
   | true=>
    have qR2:=qR
    obtain ⟨hc0,o,p,e⟩:=qR2.1 rfl
    have hc1:=hC0.1 hc0
    subst e
    repeat' (first|refine w_reg ?_|refine w_e ?_|refine w_fl rfl (by assumption) (by rfl) (by rfl) (by rfl) ?_|refine w_on rfl ?_|refine w_opk rfl rfl ?_)
    refine w_loadA rfl (hX.at hsh.1) (by show Nat.ble 4 lc[j].length=true;rw [hsh.1];rfl) ?_
    rw [show List.take 4 lc[j]=lc[j] from List.take_of_length_le (by omega)]
    repeat' (first|refine w_on rfl ?_|refine w_opk rfl rfl ?_)
    have hwl:wrapK .i64 (Int.ofNat lv - Int.ofNat 1)=Int.ofNat (lv - 1):=by
     rw [wrapK_eq]
     have e1:Int.ofNat lv - Int.ofNat 1=(lv:Int) - 1:=rfl
     have e2:Int.ofNat (lv - 1)=((lv - 1:Nat):Int):=rfl
     rw [e1,e2,wrap_i64_of (by omega) (by omega)]
     omega
    rw [hwl]
    refine w_callv rfl rfl ((ih _ (List.getElem_mem hj2) (va8.ext0 hE9) (ht.2.2.2.mem _ (List.getElem_mem hj2)) (q2.ext0 hE9) h39 (by omega) (by omega)).mono fun _ h10 ⟨b2,x2,e2,g2,gE,g3,g4⟩=>?_)
    subst e2
    repeat' (first|refine w_reg ?_|refine w_e ?_|refine w_addN rfl rfl (by omega) ?_|refine w_opk rfl rfl ?_)
    exact ⟨hj1,b2,x2,_,_,_,_,_,_,_,_,_,rfl,g2,E9.trans gE,qR.yes hj2 g3 g4⟩
  ·have hjl:lc.length≤j:=by assumption
   rw [RtI,List.take_of_length_le (show l.length≤j by omega)] at qR
   refine ⟨b,x,rfl,q2,E6.trans qE,fun hb=>?_,fun hok hp=>?_⟩
   ·obtain ⟨g1,g2,g3,g4⟩:=qR.1 hb
    have hc1:=hC0.1 g1
    refine ⟨hfin.2 ⟨hc1.1,hc1.2.2.1,hc1.2.2.2,g2⟩,by rw [hpc];omega,?_⟩
    rw [g4,hpc]
    congr 1
    omega
   ·have hk:=hfin.1 hok
    rw [hpc] at hp
    exact qR.2 (hC0.2 ⟨hk.1,by omega,hk.2.1,hk.2.2.1⟩) hk.2.2.2 (by omega))
theorem vright1_ok (hO:OffVR O) {Z:Nat→Prop} {i2 i3:Nat} (hne:i2≠i3) (hZ:¬ Z i2):∀ (m:Nat) (a:Val) {h0:Heap} {c:List V} {lv left:Nat},sizeOf a<m→VaR Z h0 a c→RngV a→Own h0 i2 [.int .i64 (.ofNat left)]→Own h0 i3 [.fn 136 [] [.ptr i2 0 0 1,.ptr i3 0 0 1]]→left≤256→lv≤16→
  WPc tab.get O 136 [.agg c,.int .i64 (.ofNat lv),.ptr i2 0 0 1,.ptr i3 0 0 1] h0 (fun v h'=>∃ b x,v=.bool b∧Own h' i2 [.int .i64 x]∧ExtX [i2] h0 h'∧(b=true→okV lv a∧pcs a≤left∧x=Int.ofNat (left - pcs a))∧(okV lv a→pcs a≤left→b=true))
 | 0,a,_,_,_,_,hm,_,_,_,_,_,_=>absurd hm (Nat.not_lt_zero _)
 | m+1,.mk k n s l,h0,c,lv,left,hm,hv,ht,h2,h3,hl,hlv=>by
  by_cases hk:k=4
  ·subst hk
   exact vr_tuple hO hv ht h2 h3 hne hZ hl hlv fun a ha h0 c lv left q1 q2 q3 q4 q5 q6=>vright1_ok hO hne hZ m a (by have:=List.sizeOf_lt_of_mem ha;simp only [Val.mk.sizeOf_spec] at hm;omega) q1 q2 q3 q4 q5 q6
  ·exact vr_plain hO hv ht h2 h3 hne hZ hl hlv hk
end AmT
namespace AmT
open Go Am
set_option maxRecDepth 100000
set_option maxHeartbeats 8000000
variable {O:CallF}
theorem vright_ok (hO:OffVR O) {Z:Nat→Prop} {h0:Heap} {a:Val} {c:List V} (hv:VaR Z h0 a c) (hz:∀ i,Z i→i<h0.n) (ht:RngV a) :
  WPc tab.get O 76 [.agg c] h0 (fun v h'=>(∃ b,v=.bool b∧(b=true↔cVal.ok a))∧Ext h0 h'):=by
 refine w_fn' (hO.ri _ _) rfl rfl (by simp only [c76,initV,nth] <;> rfl) ?_
 have hs:=hv.shape
 refine w_seq (w_reg (w_box rfl hs.1 hs.2 fun i5 h1 hB hiB hE1=>?_))
 replace hB:Own h1 i5 c:=hB
 have m1:=hE1.1
 have hBl:=hB.1
 repeat' (first|refine w_seq ?_|refine w_reg ?_|refine w_e ?_|refine w_opk rfl rfl ?_)
 refine w_alloc fun i2 h2 hL hiL hE2=>?_
 refine w_store rfl rfl hL rfl rfl (by decide) (by simp) fun h3 hL2 y3 z3=>?_
 replace hL2:Own h3 i2 [.int .i64 (.ofNat 256)]:=hL2
 have m2:=hE2.1
 have hLl:=hL2.1
 have e3:Ext h1 h3:=hE2.step y3 fun j hj=>by simp at hj;exact .inr (by omega)
 repeat' (first|refine w_seq ?_|refine w_reg ?_|refine w_e ?_)
 refine w_alloc fun i3 h4 hF hiF hE4=>?_
 have m4:=hE4.1
 repeat' (first|refine w_seq ?_|refine w_reg ?_|refine w_e ?_|refine w_opk rfl rfl ?_)
 refine w_store rfl rfl hF rfl rfl (by decide) (by simp) fun h5 hF2 y5 z5=>?_
 replace hF2:Own h5 i3 [.fn 136 [] [.ptr i2 0 0 1,.ptr i3 0 0 1]]:=hF2
 have e5:Ext h3 h5:=hE4.step y5 fun j hj=>by simp at hj;exact .inr (by omega)
 have hL5:=hL2.ext0 e5
 have hB5:=(hB.ext0 e3).ext0 e5
 have E5:=(hE1.trans e3).trans e5
 have hne:i2≠i3:=by omega
 have hZ:¬ Z i2:=fun h=>by have:=hz _ h;omega
 clear hF y5 y3 hL hE2 hE4
 repeat' (first|refine w_seq ?_|refine w_reg ?_|refine w_e ?_|refine w_fl rfl (by assumption) (by rfl) (by rfl) (by rfl) ?_)
 refine w_loadA rfl (hB5.at hs.1) (by rw [hs.1];rfl) ?_
 rw [show List.take 4 c=c from List.take_of_length_le (by omega)]
 refine w_callv rfl rfl ((vright1_ok (lv:=16) hO hne hZ (sizeOf a+1) a (by omega) (hv.ext0 E5) ht hL5 hF2 (by omega) (by omega)).mono fun _ h6 ⟨b,x,e,g2,gE,g3,g4⟩=>?_)
 subst e
 repeat' (first|refine w_e ?_|refine w_opk rfl rfl ?_|refine w_ret ?_|refine w_rt rfl ?_)
 exact ⟨⟨b,rfl,fun hb=>⟨(g3 hb).1,(g3 hb).2.1⟩,fun hc=>g4 hc.1 hc.2⟩,E5.step gE fun j hj=>by simp at hj;exact .inr (by omega)⟩
end AmT
