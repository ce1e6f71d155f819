/-
  The interpreter under the abstract machine, part IC. Conditions: those that each theorem states.
-/
import Derived.Test.YtfiajgdgjajcnaaGreatDoorIB
import Derived.Test.YtfiajgdgjajcnaaGreatDoorW
set_option linter.unusedSimpArgs false
set_option linter.unusedVariables false
namespace AmT
open Go Am
set_option maxRecDepth 100000
set_option maxHeartbeats 8000000
variable {O:CallF}
theorem sound_ok (hS:∀ a h,O 195 a h=none) (hV:OffVR O) {Z:Nat→Prop} {h0:Heap} {a:Val} {c:List V} (hv:VaR Z h0 a c) (hz:∀ i,Z i→i<h0.n) (ht:RngV a) :
  WPc tab.get O 195 [.agg c] h0 (fun r h'=>∃ cv,r=.tuple [.agg cv,.int .i64 (soundV a).2]∧VaR (fun i=>Z i∨h0.n≤i) h' (soundV a).1 cv∧Ext h0 h'):=by
 have hs:=hv.shape
 refine w_fn' (hS _ _) rfl rfl (by simp only [c195,initV,nth] <;> rfl) ?_
 refine w_seq (w_reg (w_box rfl hs.1 hs.2 fun iV h1 hB hiB hE1=>?_))
 replace hB:Own h1 iV c:=hB
 refine w_alloc fun iR h2 hR hiR hE2=>?_
 have E2:=hE1.trans hE2
 have n1:=hE1.1
 have n2:=hE2.1
 have hB2:=hB.ext0 hE2
 have hv2:VaR (fun i=>Z i∨h0.n≤i) h2 a c:=hv.ext E2 (S:=[]) (by simp) fun j hj hl=>.inl hj
 have hv2':VaR (fun i=>Z i∧i<h2.n) h2 a c:=hv.ext E2 (S:=[]) (by simp) fun j hj hl=>⟨hj,by omega⟩
 have hRl:=hR.1
 repeat' (first|refine w_seq ?_|refine w_reg ?_|refine w_e ?_|refine w_opk rfl rfl ?_)
 refine w_loadA rfl (hB2.at hs.1) (by rw [hs.1];rfl) ?_
 rw [show List.take 4 c=c from List.take_of_length_le (by omega)]
 refine w_call rfl ((vright_ok hV hv2' (fun i hi=>hi.2) ht).mono fun _ h3 ⟨⟨b,eb,hb⟩,hE3⟩=>?_)
 subst eb
 have E3:=E2.trans hE3
 have hB3:=hB2.ext0 hE3
 have hR3:=hR.ext0 hE3
 have hv3:VaR (fun i=>Z i∨h0.n≤i) h3 a c:=hv2.ext hE3 (S:=[]) (by simp) fun j hj hl=>hj
 cases b
 ·have e9:soundV a=(zeroV,5):=by
   unfold soundV
   rw [if_neg (fun hh=>by have:=hb.2 (rightB_iff.1 hh);simp at this)]
  rw [e9]
  repeat' (first|refine w_seq ?_|refine w_reg ?_|refine w_e ?_|refine w_opk rfl rfl ?_|refine w_cond_t rfl ?_)
  refine w_build [.int .u8 0,.int .i64 (.ofNat 0),.str [],.nils] rfl rfl ?_
  refine w_store rfl rfl hR3 rfl rfl (by decide) (by simp) fun h4 hR4 hE4 hn4=>?_
  replace hR4:Own h4 iR [.int .u8 0,.int .i64 (.ofNat 0),.str [],.nils]:=hR4
  repeat' (first|refine w_e ?_|refine w_opk rfl rfl ?_|refine w_ret ?_)
  refine w_rt (l:=[.agg [.int .u8 0,.int .i64 (.ofNat 0),.str [],.nils],.int .i64 (.ofNat 5)]) (by
   show resV _ _ [.cell 1 true 4,.var 2]=_
   have e1:=(hR4.at (hi:=4) rfl).agg (n:=4) (Nat.le_refl 4)
   simp only [resV,nth,e1]
   rfl) ⟨_,rfl,VaR.num 0 0,E3.step hE4 fun jd hjd=>by simp at hjd;exact .inr (by omega)⟩
 ·have e9:soundV a=(a,0):=by
   unfold soundV
   rw [if_pos (rightB_iff.2 (hb.1 rfl))]
  rw [e9]
  repeat' (first|refine w_seq ?_|refine w_reg ?_|refine w_e ?_|refine w_opk rfl rfl ?_|refine w_cond_f rfl ?_|refine w_skip ?_)
  refine w_loadA rfl (hB3.at hs.1) (by rw [hs.1];rfl) ?_
  rw [show List.take 4 c=c from List.take_of_length_le (by omega)]
  refine w_store rfl rfl hR3 (show (V.agg c).cells.length=4 from hs.1) hs.2 (by decide) (by simp) fun h4 hR4 hE4 hn4=>?_
  have hR4':Own h4 iR c:=by
   have e5:(V.agg c).cells=c:=rfl
   rw [e5] at hR4
   have e6:∀ (a b d e:V) (c:List V),c.length=4→splice [a,b,d,e] 0 c=c:=fun a b d e c hc=>by
    match c,hc with
    | [_,_,_,_],_=>rfl
   rw [e6 _ _ _ _ _ hs.1] at hR4
   exact hR4
  repeat' (first|refine w_e ?_|refine w_opk rfl rfl ?_|refine w_ret ?_)
  refine w_rt (l:=[.agg c,.int .i64 (.ofNat 0)]) (by
   show resV _ _ [.cell 1 true 4,.var 2]=_
   have e1:=(hR4'.at (hi:=4) hs.1).agg (n:=4) (by omega)
   rw [show List.take 4 c=c from List.take_of_length_le (by omega)] at e1
   simp only [resV,nth,e1]) ?_
  have E4:Ext h0 h4:=E3.step hE4 fun jd hjd=>by simp at hjd;exact .inr (by omega)
  exact ⟨_,rfl,hv.ext E4 (S:=[]) (by simp) fun j hj hl=>.inl hj,E4⟩
theorem dtuple_ok (hO:OffDo O) (hS:∀ a h,O 195 a h=none) (hV:OffVR O) {hb h0:Heap} {L:Lab} {x n:Nat} {M:ModA} {T:Trn} {c:MC} {fs:List Frm} {f:Frm} {b:Int} (m:Mac hb L h0 x M T c) (hT:T.frames=fs++[f]) (hp:c.fp=slotP c.fr fs.length) (hf:Fair T f) (hn:n<1000000) (hr:RngVl (offF f n)) :
  WPc tab.get O 130 [.ptr x 0 0 14,.agg (insC ⟨20,Int.ofNat n,b⟩)] h0 (fun _ h'=>Goes hb L h0 x M (if f.stack.length<n then trapT T 9 else toldT T fs (cutF f n) (soundV (.mk 4 0 [] (offF f n)))) h'):=by
 refine w_fn' (hO.d _ _) rfl rfl (by simp only [c130,initV,nth] <;> rfl) ?_
 refine w_seq (w_reg (w_box rfl rfl rfl fun i2 h1 hI hi2 hE1=>?_))
 replace hI:Own h1 i2 [.int .u8 20,.int .i64 (.ofNat n),.int .i64 b]:=hI
 have m1:=m.ext0 hE1
 have hst:=hf.st
 by_cases hs:f.stack.length<n
 ·rw [if_pos hs]
  repeat' (first|refine w_seq ?_|refine w_reg ?_|refine w_e ?_|refine w_rf rfl (by assumption) (by rfl) (by rfl) (by rfl) ?_)
  refine w_block ?_
  repeat' (first|refine w_seq ?_|refine w_reg ?_|refine w_e ?_|refine w_rf rfl (by assumption) (by rfl) (by rfl) (by rfl) ?_|refine w_opk rfl rfl ?_|refine w_cond_t rfl ?_|refine w_cond_f rfl ?_)
  refine w_callA [.ptr x 0 0 14,.int .i64 (.ofNat n)] rfl ((takeM_trap hO.toOffMc m1 hT hp hst hs (by omega) hf.nx hf.ef).mono fun _ h2 ⟨e,L',c',q1,q2,q3⟩=>?_)
  subst e
  repeat' (first|refine w_seq ?_|refine w_reg ?_|refine w_e ?_|refine w_opk rfl rfl ?_|refine w_cond_f rfl ?_|refine w_skip ?_|refine w_rt rfl ?_)
  exact ⟨L',c',q1,labN_old.trans q2 hE1.1,(Keep.ext0 hE1).trans labN_old q3⟩
 ·rw [if_neg hs]
  repeat' (first|refine w_seq ?_|refine w_reg ?_|refine w_e ?_|refine w_rf rfl (by assumption) (by rfl) (by rfl) (by rfl) ?_)
  refine w_block ?_
  repeat' (first|refine w_seq ?_|refine w_reg ?_|refine w_e ?_|refine w_rf rfl (by assumption) (by rfl) (by rfl) (by rfl) ?_|refine w_opk rfl rfl ?_|refine w_cond_t rfl ?_|refine w_cond_f rfl ?_)
  refine w_callA [.ptr x 0 0 14,.int .i64 (.ofNat n)] rfl ((takeM_ok hO.toOffMc m1 hT hp hst (by omega)).mono fun _ h2 ⟨v,tl,L',c',e,o,ol,tv,m2,lE,kp,ef,ep⟩=>?_)
  subst e
  have hp2:c'.fp=slotP c'.fr fs.length:=by rw [ef,ep];exact hp
  have oe:=o.rs.one
  have hlo:(offF f n).length=n:=by unfold offF;rw [List.length_drop];omega
  have A1:LabE L h0 L':=labN_old.trans lE hE1.1
  have B1:Keep L h0 h2:=(Keep.ext0 hE1).trans labN_old kp
  repeat' (first|refine w_seq ?_|refine w_reg ?_|refine w_e ?_|refine w_opk rfl rfl ?_|refine w_cond_t rfl ?_)
  refine w_build [.int .u8 4,.int .i64 (.ofNat 0),.str [],v] rfl (by simp only [fillP,V.cells1 oe,allOne,oe];rfl) ?_
  have ta:VaR (fun i=>L' i=0) h2 (.mk 4 0 [] (offF f n)) [.int .u8 4,.int .i64 (.ofNat 0),.str [],v]:=by
   unfold VaR
   exact ⟨v,tl,rfl,⟨o.rs,ol⟩,tv⟩
  have tr:RngV (.mk 4 0 [] (offF f n)):=by
   unfold RngV
   exact ⟨by decide,by decide,by omega,hr⟩
  refine w_callA [.agg [.int .u8 4,.int .i64 (.ofNat 0),.str [],v]] rfl ((sound_ok hS hV ta.lt (fun i hi=>hi.2) tr).mono fun _ h3 ⟨cv,e,tw,hE3⟩=>?_)
  subst e
  have m3:=m2.ext0 hE3
  have tw3:=tw.lab'
  have A2:=A1.trans (labN_old (h:=h2) (l:=[]) (k:=0)) B1.n
  have B2:=B1.trans A1 (Keep.ext0 hE3)
  repeat' (first|refine w_opk rfl rfl ?_)
  refine w_callA [.ptr x 0 0 14,.agg cv,.int .i64 (soundV (.mk 4 0 [] (offF f n))).2] rfl ((toldM_ok hO.toOffMc m3 (fs:=fs) (f:=cutF f n) rfl hp2 tw3 (by unfold cutF;simp only [List.length_take];omega) hf.nx hf.ef).mono fun _ h4 ⟨L4,c4,q1,q2,q3⟩=>?_)
  repeat' (first|refine w_e ?_|refine w_rt rfl ?_)
  exact ⟨L4,c4,q1,A2.trans q2 B2.n,B2.trans A2 q3⟩
end AmT
namespace AmT
open Go Am
set_option maxRecDepth 100000
set_option maxHeartbeats 8000000
variable {O:CallF}
def lenR (a:Val):V:=match lenVal a with
 | some n=>.tuple [.int .i64 (.ofNat n),.bool true]
 | none=>.tuple [.int .i64 (.ofNat 0),.bool false]
theorem length_ok (hS:∀ a h,O 247 a h=none) {Z:Nat→Prop} {h0:Heap} {a:Val} {c:List V} (hv:VaR Z h0 a c) :
  WPc tab.get O 247 [.agg c] h0 (fun r h'=>r=lenR a∧Ext h0 h'):=by
 have hs:=hv.shape
 refine w_fn' (hS _ _) rfl rfl (by simp only [c247,initV,nth] <;> rfl) ?_
 refine w_seq (w_reg (w_box rfl hs.1 hs.2 fun iV h1 hB hiB hE1=>?_))
 replace hB:Own h1 iV c:=hB
 have hv1:=hv.ext hE1 (Z':=Z) (S:=[]) (by simp) fun j hj _=>hj
 obtain ⟨k,n,s,l⟩:=a
 unfold VaR at hv1
 obtain ⟨lv,llc,rfl,rl,vl⟩:=hv1
 have rl1:=rl.1
 have hll:=vl.len
 by_cases h3:k=3
 ·subst h3
  repeat' (first|refine w_seq ?_|refine w_reg ?_|refine w_e ?_|refine w_rf rfl (by assumption) (by rfl) (by rfl) (by rfl) ?_|refine w_opk rfl rfl ?_)
  refine w_block ?_
  repeat' (first|refine w_seq ?_|refine w_reg ?_|refine w_e ?_|refine w_rf rfl (by assumption) (by rfl) (by rfl) (by rfl) ?_|refine w_opk rfl rfl ?_|refine w_cond_t rfl ?_|refine w_ret ?_|refine w_rt rfl ?_)
  exact ⟨rfl,hE1⟩
 ·by_cases h4:k=4
  ·subst h4
   have e9:lenR (.mk 4 n s l)=.tuple [.int .i64 (.ofNat llc.length),.bool true]:=by rw [hll];rfl
   rw [e9]
   repeat' (first|refine w_seq ?_|refine w_reg ?_|refine w_e ?_|refine w_rf rfl (by assumption) (by rfl) (by rfl) (by rfl) ?_|refine w_opk rfl rfl ?_)
   refine w_block ?_
   repeat' (first|refine w_seq ?_|refine w_reg ?_|refine w_e ?_|refine w_rf rfl (by assumption) (by rfl) (by rfl) (by rfl) ?_|refine w_len rfl (by assumption) ?_|refine w_opk rfl rfl ?_|refine w_cond_t rfl ?_|refine w_cond_f rfl ?_|refine w_ret ?_|refine w_rt rfl ?_)
   exact ⟨rfl,hE1⟩
  ·have e9:lenR (.mk k n s l)=.tuple [.int .i64 (.ofNat 0),.bool false]:=by
    unfold lenR lenVal
    simp only [if_neg h3,if_neg h4]
   rw [e9]
   repeat' (first|refine w_seq ?_|refine w_reg ?_|refine w_e ?_|refine w_rf rfl (by assumption) (by rfl) (by rfl) (by rfl) ?_|refine w_opk rfl rfl ?_)
   refine w_block ?_
   repeat' (first|refine w_seq ?_|refine w_reg ?_|refine w_e ?_|refine w_rf rfl (by assumption) (by rfl) (by rfl) (by rfl) ?_|refine w_len rfl (by assumption) ?_|refine w_eql rfl rfl (fun hc=>?_) (fun hc=>?_)|refine w_opk rfl rfl ?_|refine w_cond_t rfl ?_|refine w_cond_f rfl ?_|refine w_skip ?_|refine w_ret ?_|refine w_rt rfl ?_)
   ·exact absurd (show k=3 by assumption) h3
   ·exact absurd (show k=4 by assumption) h4
   ·exact ⟨rfl,hE1⟩
theorem truth_ok (hS:∀ a h,O 248 a h=none) {h0:Heap} {b:Bool} :
  WPc tab.get O 248 [.bool b] h0 (fun r h'=>r=.agg [.int .u8 2,.int .i64 (.ofNat (if b then 1 else 0)),.str [],.nils]∧Ext h0 h'):=by
 refine w_fn' (hS _ _) rfl rfl (by simp only [c248,initV,nth] <;> rfl) ?_
 refine w_seq (w_reg (w_alloc fun iR h1 hR hiR hE1=>?_))
 cases b
 all_goals (repeat' (first|refine w_seq ?_|refine w_reg ?_|refine w_e ?_|refine w_opk rfl rfl ?_|refine w_cond_t rfl ?_|refine w_cond_f rfl ?_|refine w_skip ?_))
 ·refine w_build [.int .u8 2,.int .i64 (.ofNat 0),.str [],.nils] rfl rfl ?_
  refine w_store rfl rfl hR rfl rfl (by decide) (by simp) fun h2 hR2 hE2 hn2=>?_
  replace hR2:Own h2 iR [.int .u8 2,.int .i64 (.ofNat 0),.str [],.nils]:=hR2
  repeat' (first|refine w_e ?_|refine w_ret ?_)
  refine w_rt (l:=[.agg [.int .u8 2,.int .i64 (.ofNat 0),.str [],.nils]]) (by
   show resV _ _ [.cell 1 true 4]=_
   have e1:=(hR2.at (hi:=4) rfl).agg (n:=4) (Nat.le_refl 4)
   simp only [resV,nth,e1]
   rfl) ⟨rfl,hE1.step hE2 fun jd hjd=>by simp at hjd;exact .inr (by omega)⟩
 ·refine w_build [.int .u8 2,.int .i64 (.ofNat 1),.str [],.nils] rfl rfl ?_
  refine w_store rfl rfl hR rfl rfl (by decide) (by simp) fun h2 hR2 hE2 hn2=>?_
  replace hR2:Own h2 iR [.int .u8 2,.int .i64 (.ofNat 1),.str [],.nils]:=hR2
  repeat' (first|refine w_e ?_|refine w_ret ?_)
  refine w_rt (l:=[.agg [.int .u8 2,.int .i64 (.ofNat 1),.str [],.nils]]) (by
   show resV _ _ [.cell 1 true 4]=_
   have e1:=(hR2.at (hi:=4) rfl).agg (n:=4) (Nat.le_refl 4)
   simp only [resV,nth,e1]
   rfl) ⟨rfl,hE1.step hE2 fun jd hjd=>by simp at hjd;exact .inr (by omega)⟩
theorem numberV_ok (hS:∀ a h,O 246 a h=none) {h0:Heap} {n:Int} :
  WPc tab.get O 246 [.int .i64 n] h0 (fun r h'=>r=.agg [.int .u8 1,.int .i64 n,.str [],.nils]∧Ext h0 h'):=by
 refine w_fn' (hS _ _) rfl rfl (by simp only [c246,initV,nth] <;> rfl) ?_
 refine w_seq (w_reg (w_alloc fun iR h1 hR hiR hE1=>?_))
 repeat' (first|refine w_seq ?_|refine w_reg ?_|refine w_e ?_|refine w_opk rfl rfl ?_)
 refine w_build [.int .u8 1,.int .i64 n,.str [],.nils] rfl rfl ?_
 refine w_store rfl rfl hR rfl rfl (by decide) (by simp) fun h2 hR2 hE2 hn2=>?_
 replace hR2:Own h2 iR [.int .u8 1,.int .i64 n,.str [],.nils]:=hR2
 repeat' (first|refine w_e ?_|refine w_ret ?_)
 refine w_rt (l:=[.agg [.int .u8 1,.int .i64 n,.str [],.nils]]) (by
  show resV _ _ [.cell 1 true 4]=_
  have e1:=(hR2.at (hi:=4) rfl).agg (n:=4) (Nat.le_refl 4)
  simp only [resV,nth,e1]
  rfl) ⟨rfl,hE1.step hE2 fun jd hjd=>by simp at hjd;exact .inr (by omega)⟩
structure OffOn (O:CallF):Prop extends OffDo O where
 on:∀ a h,O 197 a h=none
 le:∀ a h,O 247 a h=none
 tr':∀ a h,O 248 a h=none
 nu:∀ a h,O 246 a h=none
theorem onelen_ok (hO:OffOn O) {hb h0:Heap} {L:Lab} {x:Nat} {M:ModA} {T:Trn} {c:MC} {fs:List Frm} {f:Frm} {v:Val} {cv:List V} {a b:Int} (m:Mac hb L h0 x M T c) (hT:T.frames=fs++[f]) (hp:c.fp=slotP c.fr fs.length) (hf:Fair T f) (hv:VaR (fun i=>L i=0) h0 v cv) :
  WPc tab.get O 197 [.ptr x 0 0 14,.agg (insC ⟨19,a,b⟩),.agg cv] h0 (fun _ h'=>Goes hb L h0 x M (oneT T fs f ⟨19,a,b⟩ v) h'):=by
 have hs:=hv.shape
 have hw:withF T fs f=T:=by unfold withF;rw [← hT]
 refine w_fn' (hO.on _ _) rfl rfl (by simp only [c197,initV,nth] <;> rfl) ?_
 refine w_seq (w_reg (w_box rfl rfl rfl fun i2 h1 hI hi2 hE1=>?_))
 refine w_box rfl hs.1 hs.2 fun iV h2 hB hiB hE2=>?_
 have E2:=hE1.trans hE2
 replace hI:Own h2 i2 [.int .u8 19,.int .i64 a,.int .i64 b]:=hI.ext0 hE2
 replace hB:Own h2 iV cv:=hB
 have m2:=m.ext0 E2
 have hv2:VaR (fun i=>labN L h0 [] 0 i=0) h2 v cv:=hv.ext E2 (by simp) fun j hj hl=>by rw [labN_old j hl];exact hj
 repeat' (first|refine w_seq ?_|refine w_reg ?_|refine w_e ?_|refine w_rf rfl (by assumption) (by rfl) (by rfl) (by rfl) ?_)
 refine w_block ?_
 repeat' (first|refine w_seq ?_|refine w_reg ?_|refine w_e ?_|refine w_opk rfl rfl ?_|refine w_cond_t rfl ?_|refine w_cond_f rfl ?_)
 refine w_loadA rfl (hB.at hs.1) (by rw [hs.1];rfl) ?_
 rw [show List.take 4 cv=cv from List.take_of_length_le (by omega)]
 refine w_call rfl ((length_ok hO.le hv2).mono fun _ h3 ⟨e,hE3⟩=>?_)
 subst e
 have m3:=m2.ext0 hE3
 have A3:LabE L h0 (labN (labN L h0 [] 0) h2 [] 0):=labN_old.trans labN_old E2.1
 have B3:Keep L h0 h3:=Keep.ext0 (E2.trans hE3)
 have e8:oneT T fs f ⟨19,a,b⟩ v=(match lenVal v with | none=>trapT (withF T fs f) 1 | some n=>putT T fs f (numV' n)):=rfl
 rw [e8]
 unfold lenR
 cases lenVal v with
 | none=>
  rw [hw]
  repeat' (first|refine w_seq ?_|refine w_reg ?_|refine w_e ?_|refine w_opk rfl rfl ?_|refine w_cond_t rfl ?_)
  refine w_callA [.ptr x 0 0 14,.int .i64 (.ofNat 1)] rfl ((trapM_ok hO.toOffMc m3 hf.nx hf.ef).mono fun _ h4 ⟨L4,c4,q1,q2,q3⟩=>?_)
  repeat' (first|refine w_e ?_|refine w_ret ?_|refine w_rt rfl ?_)
  exact ⟨L4,c4,q1,A3.trans q2 B3.n,B3.trans A3 q3⟩
 | some n=>
  repeat' (first|refine w_seq ?_|refine w_reg ?_|refine w_e ?_|refine w_opk rfl rfl ?_|refine w_cond_f rfl ?_|refine w_skip ?_)
  refine w_call rfl ((numberV_ok hO.nu).mono fun _ h4 ⟨e,hE4⟩=>?_)
  subst e
  have m4:=m3.ext0 hE4
  have A4:=A3.trans (labN_old (h:=h3) (l:=[]) (k:=0)) B3.n
  have B4:=B3.trans A3 (Keep.ext0 hE4)
  skip
  refine w_call rfl ((putM_ok hO.toOffMc m4 hT hp (VaR.num 1 n) hf.st hf.nx hf.ef).mono fun _ h5 ⟨L5,c5,q1,q2,q3,_⟩=>?_)
  repeat' (first|refine w_e ?_|refine w_ret ?_|refine w_rt rfl ?_)
  exact ⟨L5,c5,q1,A4.trans q2 B4.n,B4.trans A4 q3⟩
end AmT
namespace AmT
open Go Am
set_option maxRecDepth 100000
set_option maxHeartbeats 8000000
variable {O:CallF}
theorem onetrap_ok (hO:OffOn O) {hb h0:Heap} {L:Lab} {x:Nat} {M:ModA} {T:Trn} {c:MC} {fs:List Frm} {f:Frm} {v:Val} {cv:List V} {op a b:Int} (m:Mac hb L h0 x M T c) (hf:Fair T f) (hv:VaR (fun i=>L i=0) h0 v cv) (ho:op=10∨op=28∨op=29∨op=30∨op=31) (hk:v.kind≠2) :
  WPc tab.get O 197 [.ptr x 0 0 14,.agg (insC ⟨op,a,b⟩),.agg cv] h0 (fun _ h'=>Goes hb L h0 x M (trapT T 1) h'):=by
 have hs:=hv.shape
 refine w_fn' (hO.on _ _) rfl rfl (by simp only [c197,initV,nth] <;> rfl) ?_
 refine w_seq (w_reg (w_box rfl rfl rfl fun i2 h1 hI hi2 hE1=>?_))
 refine w_box rfl hs.1 hs.2 fun iV h2 hB hiB hE2=>?_
 have E2:=hE1.trans hE2
 replace hI:Own h2 i2 [.int .u8 op,.int .i64 a,.int .i64 b]:=hI.ext0 hE2
 have m2:=m.ext0 E2
 obtain ⟨k,n,s,l⟩:=v
 have hk':k≠2:=hk
 unfold VaR at hv
 obtain ⟨lv,llc,rfl,rl,vl⟩:=hv
 replace hB:Own h2 iV [.int .u8 k,.int .i64 n,.str s,lv]:=hB
 have hb:iNot (iEq k (Int.ofNat 2))=true:=by
  have e5:iEq k (Int.ofNat 2)=false:=Bool.eq_false_iff.2 fun e=>hk' (by rw [iEq_eq] at e;exact eq_of_beq e)
  rw [e5];rfl
 rcases ho with rfl | rfl | rfl | rfl | rfl
 all_goals (repeat' (first|refine w_seq ?_|refine w_reg ?_|refine w_e ?_|refine w_rf rfl (by assumption) (by rfl) (by rfl) (by rfl) ?_))
 all_goals refine w_block ?_
 all_goals (repeat' (first|refine w_seq ?_|refine w_reg ?_|refine w_e ?_|refine w_rf rfl (by assumption) (by rfl) (by rfl) (by rfl) ?_|refine w_opk rfl rfl ?_|refine w_cond_f rfl ?_|refine w_skip ?_))
 all_goals rw [hb]
 all_goals (repeat' (first|refine w_seq ?_|refine w_reg ?_|refine w_opk rfl rfl ?_|refine w_cond_t rfl ?_))
 all_goals
  refine w_callA [.ptr x 0 0 14,.int .i64 (.ofNat 1)] rfl ((trapM_ok hO.toOffMc m2 hf.nx hf.ef).mono fun _ h4 ⟨L4,c4,q1,q2,q3⟩=>?_)
 all_goals (repeat' (first|refine w_e ?_|refine w_ret ?_|refine w_rt rfl ?_))
 all_goals exact ⟨L4,c4,q1,labN_old.trans q2 E2.1,(Keep.ext0 E2).trans labN_old q3⟩
theorem onenot_ok (hO:OffOn O) {hb h0:Heap} {L:Lab} {x:Nat} {M:ModA} {T:Trn} {c:MC} {fs:List Frm} {f:Frm} {v:Val} {cv:List V} {a b:Int} (m:Mac hb L h0 x M T c) (hT:T.frames=fs++[f]) (hp:c.fp=slotP c.fr fs.length) (hf:Fair T f) (hv:VaR (fun i=>L i=0) h0 v cv) (hk:v.kind=2) :
  WPc tab.get O 197 [.ptr x 0 0 14,.agg (insC ⟨10,a,b⟩),.agg cv] h0 (fun _ h'=>Goes hb L h0 x M (putT T fs f (truV (!decide (v.num=1)))) h'):=by
 have hs:=hv.shape
 refine w_fn' (hO.on _ _) rfl rfl (by simp only [c197,initV,nth] <;> rfl) ?_
 refine w_seq (w_reg (w_box rfl rfl rfl fun i2 h1 hI hi2 hE1=>?_))
 refine w_box rfl hs.1 hs.2 fun iV h2 hB hiB hE2=>?_
 have E2:=hE1.trans hE2
 replace hI:Own h2 i2 [.int .u8 10,.int .i64 a,.int .i64 b]:=hI.ext0 hE2
 have m2:=m.ext0 E2
 obtain ⟨k,n,s,l⟩:=v
 replace hk:k=2:=hk
 subst hk
 unfold VaR at hv
 obtain ⟨lv,llc,rfl,rl,vl⟩:=hv
 replace hB:Own h2 iV [.int .u8 2,.int .i64 n,.str s,lv]:=hB
 have e1:iEq n (Int.ofNat 1)=decide (n=1):=by rw [iEq_eq];rfl
 repeat' (first|refine w_seq ?_|refine w_reg ?_|refine w_e ?_|refine w_rf rfl (by assumption) (by rfl) (by rfl) (by rfl) ?_)
 refine w_block ?_
 repeat' (first|refine w_seq ?_|refine w_reg ?_|refine w_e ?_|refine w_rf rfl (by assumption) (by rfl) (by rfl) (by rfl) ?_|refine w_opk rfl rfl ?_|refine w_cond_f rfl ?_|refine w_skip ?_)
 rw [e1]
 skip
 refine w_block ?_
 repeat' (first|refine w_seq ?_|refine w_reg ?_|refine w_e ?_|refine w_opk rfl rfl ?_|refine w_cond_t rfl ?_)
 refine w_callA [.bool (!decide (n=1))] rfl ((truth_ok hO.tr').mono fun _ h3 ⟨e,hE3⟩=>?_)
 subst e
 have m3:=m2.ext0 hE3
 have A3:LabE L h0 (labN (labN L h0 [] 0) h2 [] 0):=labN_old.trans labN_old E2.1
 have B3:Keep L h0 h3:=Keep.ext0 (E2.trans hE3)
 have hvt:∀ {Z:Nat→Prop} {h:Heap} (t:Bool),VaR Z h (truV t) [.int .u8 2,.int .i64 (.ofNat (if t then 1 else 0)),.str [],.nils]:=fun t=>by
  cases t
  ·exact VaR.num 2 0
  ·exact VaR.num 2 1
 skip
 refine w_callA [.ptr x 0 0 14,.agg [.int .u8 2,.int .i64 (.ofNat (if !decide (n=1) then 1 else 0)),.str [],.nils]] rfl ((putM_ok hO.toOffMc m3 hT hp (hvt (!decide (n=1))) hf.st hf.nx hf.ef).mono fun _ h5 ⟨L5,c5,q1,q2,q3,_⟩=>?_)
 repeat' (first|refine w_e ?_|refine w_rt rfl ?_)
 exact ⟨L5,c5,q1,A3.trans q2 B3.n,B3.trans A3 q3⟩
theorem onetruth_ok (hO:OffOn O) {hb h0:Heap} {L:Lab} {x:Nat} {M:ModA} {T:Trn} {c:MC} {fs:List Frm} {f:Frm} {v:Val} {cv:List V} {a b:Int} (m:Mac hb L h0 x M T c) (hT:T.frames=fs++[f]) (hp:c.fp=slotP c.fr fs.length) (hf:Fair T f) (hv:VaR (fun i=>L i=0) h0 v cv) (hk:v.kind=2) :
  WPc tab.get O 197 [.ptr x 0 0 14,.agg (insC ⟨31,a,b⟩),.agg cv] h0 (fun _ h'=>Goes hb L h0 x M (putT T fs f v) h'):=by
 have hs:=hv.shape
 refine w_fn' (hO.on _ _) rfl rfl (by simp only [c197,initV,nth] <;> rfl) ?_
 refine w_seq (w_reg (w_box rfl rfl rfl fun i2 h1 hI hi2 hE1=>?_))
 refine w_box rfl hs.1 hs.2 fun iV h2 hB hiB hE2=>?_
 have E2:=hE1.trans hE2
 replace hI:Own h2 i2 [.int .u8 31,.int .i64 a,.int .i64 b]:=hI.ext0 hE2
 have m2:=m.ext0 E2
 have hv2:VaR (fun i=>labN L h0 [] 0 i=0) h2 v cv:=hv.ext E2 (by simp) fun j hj hl=>by rw [labN_old j hl];exact hj
 obtain ⟨k,n,s,l⟩:=v
 replace hk:k=2:=hk
 subst hk
 have hvv:=hv
 unfold VaR at hvv
 obtain ⟨lv,llc,rfl,rl,vl⟩:=hvv
 replace hB:Own h2 iV [.int .u8 2,.int .i64 n,.str s,lv]:=hB
 have e1:iEq n (Int.ofNat 1)=decide (n=1):=by rw [iEq_eq];rfl
 have A3:LabE L h0 (labN L h0 [] 0):=labN_old
 have B3:Keep L h0 h2:=Keep.ext0 E2
 repeat' (first|refine w_seq ?_|refine w_reg ?_|refine w_e ?_|refine w_rf rfl (by assumption) (by rfl) (by rfl) (by rfl) ?_)
 refine w_block ?_
 repeat' (first|refine w_seq ?_|refine w_reg ?_|refine w_e ?_|refine w_rf rfl (by assumption) (by rfl) (by rfl) (by rfl) ?_|refine w_opk rfl rfl ?_|refine w_cond_f rfl ?_|refine w_skip ?_)
 rw [e1]
 skip
 refine w_block ?_
 repeat' (first|refine w_seq ?_|refine w_reg ?_|refine w_e ?_|refine w_opk rfl rfl ?_|refine w_cond_t rfl ?_|refine w_cond_f rfl ?_)
 refine w_loadA rfl (hB.at rfl) rfl ?_
 refine w_callA [.ptr x 0 0 14,.agg [.int .u8 2,.int .i64 n,.str s,lv]] rfl ((putM_ok hO.toOffMc m2 hT hp hv2 hf.st hf.nx hf.ef).mono fun _ h5 ⟨L5,c5,q1,q2,q3,_⟩=>?_)
 repeat' (first|refine w_e ?_|refine w_rt rfl ?_)
 exact ⟨L5,c5,q1,A3.trans q2 B3.n,B3.trans A3 q3⟩
end AmT
namespace AmT
open Go Am
set_option maxRecDepth 100000
set_option maxHeartbeats 8000000
variable {O:CallF}
theorem oneunless_ok (hO:OffOn O) {hb h0:Heap} {L:Lab} {x k:Nat} {M:ModA} {T:Trn} {c:MC} {fs:List Frm} {f:Frm} {v:Val} {cv:List V} {b:Int} (m:Mac hb L h0 x M T c) (hT:T.frames=fs++[f]) (hp:c.fp=slotP c.fr fs.length) (hv:VaR (fun i=>L i=0) h0 v cv) (hk:v.kind=2) :
  WPc tab.get O 197 [.ptr x 0 0 14,.agg (insC ⟨28,Int.ofNat k,b⟩),.agg cv] h0 (fun _ h'=>Goes hb L h0 x M (if v.num=1 then withF T fs f else withF T fs { f with at_:=k }) h'):=by
 have hs:=hv.shape
 have hw:withF T fs f=T:=by unfold withF;rw [← hT]
 refine w_fn' (hO.on _ _) rfl rfl (by simp only [c197,initV,nth] <;> rfl) ?_
 refine w_seq (w_reg (w_box rfl rfl rfl fun i2 h1 hI hi2 hE1=>?_))
 refine w_box rfl hs.1 hs.2 fun iV h2 hB hiB hE2=>?_
 have E2:=hE1.trans hE2
 replace hI:Own h2 i2 [.int .u8 28,.int .i64 (.ofNat k),.int .i64 b]:=hI.ext0 hE2
 have m2:=m.ext0 E2
 obtain ⟨kk,n,s,l⟩:=v
 replace hk:kk=2:=hk
 subst hk
 unfold VaR at hv
 obtain ⟨lv,llc,rfl,rl,vl⟩:=hv
 replace hB:Own h2 iV [.int .u8 2,.int .i64 n,.str s,lv]:=hB
 have e1:iEq n (Int.ofNat 1)=decide (n=1):=by rw [iEq_eq];rfl
 obtain ⟨vv,stk,lv',ls,hkk,hck,o1,w1,o2,w2,g1,g2,d1,_⟩:=m2.top hT
 have hX13:At h2 (.ptr x (0+13) 0 14) [slotP c.fr fs.length]:=at13 m2.own rfl (by rw [← hp];rfl)
 have hA:=slot_at m2.fr.rs hkk
 rw [hck] at hA
 have hn:(Val.mk 2 n s l).num=n:=rfl
 rw [hn]
 repeat' (first|refine w_seq ?_|refine w_reg ?_|refine w_e ?_|refine w_rf rfl (by assumption) (by rfl) (by rfl) (by rfl) ?_)
 refine w_block ?_
 repeat' (first|refine w_seq ?_|refine w_reg ?_|refine w_e ?_|refine w_rf rfl (by assumption) (by rfl) (by rfl) (by rfl) ?_|refine w_opk rfl rfl ?_|refine w_cond_f rfl ?_|refine w_skip ?_)
 rw [e1]
 by_cases h1:n=1
 ·rw [if_pos h1,decide_eq_true h1,hw]
  skip
  refine w_block ?_
  repeat' (first|refine w_seq ?_|refine w_reg ?_|refine w_e ?_|refine w_opk rfl rfl ?_|refine w_cond_t rfl ?_|refine w_cond_f rfl ?_|refine w_skip ?_|refine w_rt rfl ?_)
  exact ⟨_,_,m2,labN_old,Keep.ext0 E2⟩
 ·rw [if_neg h1,decide_eq_false h1]
  skip
  refine w_block ?_
  repeat' (first|refine w_seq ?_|refine w_reg ?_|refine w_e ?_|refine w_opk rfl rfl ?_|refine w_cond_t rfl ?_|refine w_cond_f rfl ?_)
  refine w_load1 (c:=[]) rfl hX13 rfl ?_
  repeat' (first|refine w_rf rfl (by assumption) (by rfl) (by rfl) (by rfl) ?_)
  refine w_nilck rfl hA ?_
  refine w_fadr rfl hA rfl fun hA2=>?_
  refine w_storeS rfl rfl m2.fr hkk rfl (by decide) rfl fun h3 hF2 hE3 hn2=>?_
  rw [hck] at hF2
  replace hF2:Ow h3 4 c.fr (c.lf.set fs.length [.int .i64 (.ofNat f.fn),.int .i64 (.ofNat k),vv,stk]):=hF2
  repeat' (first|refine w_e ?_|refine w_rt rfl ?_)
  have hz:∀ j,labN L h0 [] 0 j=0→j∉slIds c.fr:=fun j hj hm=>by have:=m2.frl j hm;omega
  have hm:=m2.stack (l:=f.stack) (at_:=k) (stk:=stk) (stk':=stk) hT o1 w1 g1 g2 (hE3.mono fun j hj=>by simp [hj]) hF2 (o2.ext hE3 fun j hj hm=>d1 j hj hm) (w2.ext hE3 hz fun j hj hl=>by rw [labN_old j hl];exact hj) fun i hi=>.inl hi
  exact ⟨_,_,hm,labN_old.trans labN_old E2.1,(Keep.ext0 E2).trans labN_old (Keep.of hE3 m2.frN)⟩
end AmT
namespace AmT
open Go Am
set_option maxRecDepth 100000
set_option maxHeartbeats 8000000
variable {O:CallF}
theorem oneand_ok (hO:OffOn O) {hb h0:Heap} {L:Lab} {x k:Nat} {M:ModA} {T:Trn} {c:MC} {fs:List Frm} {f:Frm} {v:Val} {cv:List V} {op b:Int} (m:Mac hb L h0 x M T c) (hT:T.frames=fs++[f]) (hp:c.fp=slotP c.fr fs.length) (hf:Fair T f) (hst:f.stack.length<200) (hv:VaR (fun i=>L i=0) h0 v cv) (hk:v.kind=2) (ho:op=29∨op=30) :
  WPc tab.get O 197 [.ptr x 0 0 14,.agg (insC ⟨op,Int.ofNat k,b⟩),.agg cv] h0 (fun _ h'=>Goes hb L h0 x M (if decide (v.num=1)=decide (op=30) then putT T fs { f with at_:=k } v else withF T fs f) h'):=by
 have hs:=hv.shape
 have hw:withF T fs f=T:=by unfold withF;rw [← hT]
 refine w_fn' (hO.on _ _) rfl rfl (by simp only [c197,initV,nth] <;> rfl) ?_
 refine w_seq (w_reg (w_box rfl rfl rfl fun i2 h1 hI hi2 hE1=>?_))
 refine w_box rfl hs.1 hs.2 fun iV h2 hB hiB hE2=>?_
 have E2:=hE1.trans hE2
 replace hI:Own h2 i2 [.int .u8 op,.int .i64 (.ofNat k),.int .i64 b]:=hI.ext0 hE2
 have m2:=m.ext0 E2
 have hl2:labN L h0 [] 0 i2=0:=labN_new hi2 (by simp)
 have hv2:VaR (fun i=>labN L h0 [] 0 i=0) h2 v cv:=hv.ext E2 (by simp) fun j hj hl=>by rw [labN_old j hl];exact hj
 obtain ⟨kk,n,s,l⟩:=v
 replace hk:kk=2:=hk
 subst hk
 have hvv:=hv
 unfold VaR at hvv
 obtain ⟨lv,llc,rfl,rl,vl⟩:=hvv
 replace hB:Own h2 iV [.int .u8 2,.int .i64 n,.str s,lv]:=hB
 have e1:iEq n (Int.ofNat 1)=decide (n=1):=by rw [iEq_eq];rfl
 have hn:(Val.mk 2 n s l).num=n:=rfl
 rw [hn]
 rcases ho with rfl | rfl
 all_goals (repeat' (first|refine w_seq ?_|refine w_reg ?_|refine w_e ?_|refine w_rf rfl (by assumption) (by rfl) (by rfl) (by rfl) ?_))
 all_goals refine w_block ?_
 all_goals (repeat' (first|refine w_seq ?_|refine w_reg ?_|refine w_e ?_|refine w_rf rfl (by assumption) (by rfl) (by rfl) (by rfl) ?_|refine w_opk rfl rfl ?_|refine w_cond_f rfl ?_|refine w_skip ?_))
 all_goals rw [e1]
 all_goals generalize decide (n=1)=t
 all_goals cases t
 all_goals (skip)
 all_goals refine w_block ?_
 all_goals (repeat' (first|refine w_seq ?_|refine w_reg ?_|refine w_e ?_|refine w_rf rfl (by assumption) (by rfl) (by rfl) (by rfl) ?_|refine w_opk rfl rfl ?_|refine w_cond_t rfl ?_|refine w_cond_f rfl ?_|refine w_skip ?_|refine w_rt rfl ?_))
 all_goals try exact ⟨_,_,by rw [if_neg (by decide),hw];exact m2,labN_old,Keep.ext0 E2⟩
 all_goals rw [if_pos (by decide)]
 all_goals
  refine w_loadA rfl (hB.at rfl) rfl ?_
  refine w_callA [.ptr x 0 0 14,.agg [.int .u8 2,.int .i64 n,.str s,lv]] rfl ((putM_ok hO.toOffMc m2 hT hp hv2 hf.st hf.nx hf.ef).mono fun _ h3 ⟨L3,c3,m3,lE,kp,hpp⟩=>?_)
  obtain ⟨pf,pp⟩:=hpp hst
  have hpt:putT T fs f (.mk 2 n s l)=withF T fs (putF f (.mk 2 n s l)):=by unfold putT;rw [if_neg (by omega)]
  have hpt2:putT T fs { f with at_:=k } (.mk 2 n s l)=withF T fs { putF f (.mk 2 n s l) with at_:=k }:=by unfold putT;rw [if_neg (show ¬ 200≤f.stack.length by omega)];rfl
  rw [hpt2]
  rw [hpt] at m3
  have hI3:=kp.own hI hl2
  obtain ⟨vv,stk,lv',ls,hkk,hck,o1,w1,o2,w2,g1,g2,d1,_⟩:=m3.top (fs:=fs) (f:=putF f (.mk 2 n s l)) rfl
  have hX13:At h3 (.ptr x (0+13) 0 14) [slotP c3.fr fs.length]:=at13 m3.own rfl (by show some c3.fp=_;rw [pp,hp,pf])
  have hA:=slot_at m3.fr.rs hkk
  rw [hck] at hA
 all_goals (repeat' (first|refine w_reg ?_|refine w_e ?_|refine w_opk rfl rfl ?_))
 all_goals refine w_load1 (c:=[]) rfl hX13 rfl ?_
 all_goals (repeat' (first|refine w_rf rfl (by assumption) (by rfl) (by rfl) (by rfl) ?_))
 all_goals
  refine w_nilck rfl hA ?_
  refine w_fadr rfl hA rfl fun hA2=>?_
  refine w_storeS rfl rfl m3.fr hkk rfl (by decide) rfl fun h4 hF2 hE3 hn2=>?_
  rw [hck] at hF2
  replace hF2:Ow h4 4 c3.fr (c3.lf.set fs.length [.int .i64 (.ofNat f.fn),.int .i64 (.ofNat k),vv,stk]):=hF2
 all_goals (repeat' (first|refine w_e ?_|refine w_rt rfl ?_))
 all_goals
  have hz:∀ j,L3 j=0→j∉slIds c3.fr:=fun j hj hm=>by have:=m3.frl j hm;omega
  have hm:=m3.stack (fs:=fs) (f:=putF f (.mk 2 n s l)) (l:=(putF f (.mk 2 n s l)).stack) (at_:=k) (stk:=stk) (stk':=stk) rfl o1 w1 g1 g2 (hE3.mono fun j hj=>by simp [hj]) hF2 (o2.ext hE3 fun j hj hm=>d1 j hj hm) (w2.ext hE3 hz fun j hj hl=>by rw [labN_old j hl];exact hj) fun i hi=>.inl hi
  exact ⟨_,_,hm,(labN_old.trans lE E2.1).trans labN_old (by have:=E2.1;have:=kp.n;omega),((Keep.ext0 E2).trans labN_old kp).trans (labN_old.trans lE E2.1) (Keep.of hE3 m3.frN)⟩
end AmT
namespace AmT
open Go Am
set_option maxRecDepth 100000
set_option maxHeartbeats 8000000
variable {O:CallF}
theorem oneneg_ok (hO:OffOn O) {hb h0:Heap} {L:Lab} {x:Nat} {M:ModA} {T:Trn} {c:MC} {fs:List Frm} {f:Frm} {v:Val} {cv:List V} {a b:Int} (m:Mac hb L h0 x M T c) (hT:T.frames=fs++[f]) (hp:c.fp=slotP c.fr fs.length) (hf:Fair T f) (hv:VaR (fun i=>L i=0) h0 v cv) (h2:TwoOk O 5 (numV' 0) v) :
  WPc tab.get O 197 [.ptr x 0 0 14,.agg (insC ⟨9,a,b⟩),.agg cv] h0 (fun _ h'=>Goes hb L h0 x M (toldT T fs f (twoV 5 (numV' 0) v)) h'):=by
 have hs:=hv.shape
 refine w_fn' (hO.on _ _) rfl rfl (by simp only [c197,initV,nth] <;> rfl) ?_
 refine w_seq (w_reg (w_box rfl rfl rfl fun i2 h1 hI hi2 hE1=>?_))
 refine w_box rfl hs.1 hs.2 fun iV h2' hB hiB hE2=>?_
 have E2:=hE1.trans hE2
 replace hI:Own h2' i2 [.int .u8 9,.int .i64 a,.int .i64 b]:=hI.ext0 hE2
 replace hB:Own h2' iV cv:=hB
 have m2:=m.ext0 E2
 have hv2:VaR (fun i=>labN L h0 [] 0 i=0) h2' v cv:=hv.ext E2 (by simp) fun j hj hl=>by rw [labN_old j hl];exact hj
 repeat' (first|refine w_seq ?_|refine w_reg ?_|refine w_e ?_|refine w_rf rfl (by assumption) (by rfl) (by rfl) (by rfl) ?_)
 refine w_block ?_
 repeat' (first|refine w_seq ?_|refine w_reg ?_|refine w_e ?_|refine w_opk rfl rfl ?_|refine w_cond_t rfl ?_)
 refine w_loadA rfl (hB.at hs.1) (by rw [hs.1];rfl) ?_
 rw [show List.take 4 cv=cv from List.take_of_length_le (by omega)]
 refine w_callA [.int .i64 (.ofNat 0)] rfl ((numberV_ok hO.nu).mono fun _ h3 ⟨e,hE3⟩=>?_)
 subst e
 have m3:=m2.ext0 hE3
 have A3:LabE L h0 (labN (labN L h0 [] 0) h2' [] 0):=labN_old.trans labN_old E2.1
 have B3:Keep L h0 h3:=Keep.ext0 (E2.trans hE3)
 have hv3:=hv2.ext hE3 (Z':=fun i=>labN (labN L h0 [] 0) h2' [] 0 i=0) (by simp) fun j hj hl=>by rw [labN_old j hl];exact hj
 have e4:List.take 4 cv=cv:=List.take_of_length_le (by omega)
 refine w_chkA (c:=cv) (by rw [e4];rfl) rfl ((hB.ext0 hE3).at hs.1) (by omega) (V.beqL_refl _) ?_
 refine w_callA [.int .u8 5,.agg [.int .u8 1,.int .i64 (.ofNat 0),.str [],.nils],.agg cv] rfl ((h2 (VaR.num 1 0) hv3.lt (fun i hi=>hi.2)).mono fun _ h4 ⟨cw,e,tw,hE4⟩=>?_)
 subst e
 have m4:=m3.ext0 hE4
 have tw4:=tw.lab'
 have A4:=A3.trans (labN_old (h:=h3) (l:=[]) (k:=0)) B3.n
 have B4:=B3.trans A3 (Keep.ext0 hE4)
 repeat' (first|refine w_opk rfl rfl ?_)
 refine w_callA [.ptr x 0 0 14,.agg cw,.int .i64 (twoV 5 (numV' 0) v).2] rfl ((toldM_ok hO.toOffMc m4 hT hp tw4 hf.st hf.nx hf.ef).mono fun _ h5 ⟨L5,c5,q1,q2,q3⟩=>?_)
 repeat' (first|refine w_e ?_|refine w_ret ?_|refine w_rt rfl ?_)
 exact ⟨L5,c5,q1,A4.trans q2 B4.n,B4.trans A4 q3⟩
theorem oneall_ok (hO:OffOn O) {hb h0:Heap} {L:Lab} {x k:Nat} {M:ModA} {T:Trn} {c:MC} {fs:List Frm} {f:Frm} {v:Val} {cv:List V} {op b:Int} (m:Mac hb L h0 x M T c) (hT:T.frames=fs++[f]) (hp:c.fp=slotP c.fr fs.length) (hf:Fair T f) (hst:f.stack.length<200) (hv:VaR (fun i=>L i=0) h0 v cv) (ho:op=28∨op=29∨op=30∨op=31∨op=10∨op=9∨op=19) (h2:op=9→TwoOk O 5 (numV' 0) v) :
  WPc tab.get O 197 [.ptr x 0 0 14,.agg (insC ⟨op,Int.ofNat k,b⟩),.agg cv] h0 (fun _ h'=>Goes hb L h0 x M (oneT T fs f ⟨op,Int.ofNat k,b⟩ v) h'):=by
 have hw:withF T fs f=T:=by unfold withF;rw [← hT]
 by_cases h9:op=9
 ·subst h9
  exact oneneg_ok hO m hT hp hf hv (h2 rfl)
 by_cases h19:op=19
 ·subst h19
  exact onelen_ok hO m hT hp hf hv
 by_cases hk:v.kind=2
 ·rcases ho with rfl | rfl | rfl | rfl | rfl | rfl | rfl
  ·have e:oneT T fs f ⟨28,Int.ofNat k,b⟩ v=(if v.num=1 then withF T fs f else withF T fs { f with at_:=k }):=by
    unfold oneT
    dsimp only
    rw [if_neg (by decide),if_neg (by decide),if_neg (by omega),if_neg (by decide),if_neg (by decide),if_pos rfl]
    rfl
   rw [e]
   exact oneunless_ok hO m hT hp hv hk
  ·have e:oneT T fs f ⟨29,Int.ofNat k,b⟩ v=(if decide (v.num=1)=decide ((29:Int)=30) then putT T fs { f with at_:=k } v else withF T fs f):=by
    unfold oneT
    dsimp only
    rw [if_neg (by decide),if_neg (by decide),if_neg (by omega),if_neg (by decide),if_neg (by decide),if_neg (by decide)]
    rfl
   rw [e]
   exact oneand_ok hO m hT hp hf hst hv hk (.inl rfl)
  ·have e:oneT T fs f ⟨30,Int.ofNat k,b⟩ v=(if decide (v.num=1)=decide ((30:Int)=30) then putT T fs { f with at_:=k } v else withF T fs f):=by
    unfold oneT
    dsimp only
    rw [if_neg (by decide),if_neg (by decide),if_neg (by omega),if_neg (by decide),if_neg (by decide),if_neg (by decide)]
    rfl
   rw [e]
   exact oneand_ok hO m hT hp hf hst hv hk (.inr rfl)
  ·have e:oneT T fs f ⟨31,Int.ofNat k,b⟩ v=putT T fs f v:=by
    unfold oneT
    dsimp only
    rw [if_neg (by decide),if_neg (by decide),if_neg (by omega),if_neg (by decide),if_pos rfl]
   rw [e]
   exact onetruth_ok hO m hT hp hf hv hk
  ·have e:oneT T fs f ⟨10,Int.ofNat k,b⟩ v=putT T fs f (truV (!decide (v.num=1))):=by
    unfold oneT
    dsimp only
    rw [if_neg (by decide),if_neg (by decide),if_neg (by omega),if_pos rfl]
   rw [e]
   exact onenot_ok hO m hT hp hf hv hk
  ·exact absurd rfl h9
  ·exact absurd rfl h19
 ·have e:oneT T fs f ⟨op,Int.ofNat k,b⟩ v=trapT T 1:=by
   unfold oneT
   dsimp only
   rw [if_neg h9,if_neg h19,if_pos hk,hw]
  rw [e]
  exact onetrap_ok hO (fs:=fs) (f:=f) m hf hv (by omega) hk
end AmT
namespace AmT
open Go Am
set_option maxRecDepth 100000
set_option maxHeartbeats 8000000
variable {O:CallF}
theorem doone_ok (hO:OffDo O) {hb h0:Heap} {L:Lab} {x:Nat} {M:ModA} {T T':Trn} {c:MC} {fs:List Frm} {f:Frm} {op a b:Int} (m:Mac hb L h0 x M T c) (hT:T.frames=fs++[f]) (hp:c.fp=slotP c.fr fs.length) (hf:Fair T f) (ho:op=28∨op=29∨op=30∨op=31∨op=10∨op=9∨op=19)
  (hA:¬ f.stack.length<1→∀ {h:Heap} {L:Lab} {c:MC} {cv:List V},Mac hb L h x M (withF T fs (cutF f 1)) c→c.fp=slotP c.fr fs.length→VaR (fun i=>L i=0) h ((offF f 1).headD zeroV) cv→WPc tab.get O 197 [.ptr x 0 0 14,.agg (insC ⟨op,a,b⟩),.agg cv] h (fun _ h'=>Goes hb L h x M T' h')) :
  WPc tab.get O 130 [.ptr x 0 0 14,.agg (insC ⟨op,a,b⟩)] h0 (fun _ h'=>Goes hb L h0 x M (if f.stack.length<1 then trapT T 9 else T') h'):=by
 refine w_fn' (hO.d _ _) rfl rfl (by simp only [c130,initV,nth] <;> rfl) ?_
 refine w_seq (w_reg (w_box rfl rfl rfl fun i2 h1 hI hi2 hE1=>?_))
 replace hI:Own h1 i2 [.int .u8 op,.int .i64 a,.int .i64 b]:=hI
 have m1:=m.ext0 hE1
 have hl2:labN L h0 [] 0 i2=0:=labN_new hi2 (by simp)
 have hst:=hf.st
 by_cases hs:f.stack.length<1
 ·rw [if_pos hs]
  rcases ho with rfl | rfl | rfl | rfl | rfl | rfl | rfl
  all_goals (repeat' (first|refine w_seq ?_|refine w_reg ?_|refine w_e ?_|refine w_rf rfl (by assumption) (by rfl) (by rfl) (by rfl) ?_))
  all_goals refine w_block ?_
  all_goals (repeat' (first|refine w_seq ?_|refine w_reg ?_|refine w_e ?_|refine w_opk rfl rfl ?_|refine w_cond_t rfl ?_|refine w_cond_f rfl ?_|refine w_skip ?_))
  all_goals
   refine w_callA [.ptr x 0 0 14,.int .i64 (.ofNat 1)] rfl ((takeM_trap hO.toOffMc m1 hT hp hst hs (by decide) hf.nx hf.ef).mono fun _ h2 ⟨e,L',c',q1,q2,q3⟩=>?_)
   subst e
  all_goals (repeat' (first|refine w_seq ?_|refine w_reg ?_|refine w_e ?_|refine w_opk rfl rfl ?_|refine w_cond_f rfl ?_|refine w_skip ?_|refine w_rt rfl ?_))
  all_goals exact ⟨L',c',q1,labN_old.trans q2 hE1.1,(Keep.ext0 hE1).trans labN_old q3⟩
 ·rw [if_neg hs]
  have hlo:(offF f 1).length=1:=by unfold offF;rw [List.length_drop];omega
  obtain ⟨va,ea,eh⟩:=head_of (d:=zeroV) hlo
  rw [eh] at hA
  rcases ho with rfl | rfl | rfl | rfl | rfl | rfl | rfl
  all_goals (repeat' (first|refine w_seq ?_|refine w_reg ?_|refine w_e ?_|refine w_rf rfl (by assumption) (by rfl) (by rfl) (by rfl) ?_))
  all_goals refine w_block ?_
  all_goals (repeat' (first|refine w_seq ?_|refine w_reg ?_|refine w_e ?_|refine w_opk rfl rfl ?_|refine w_cond_t rfl ?_|refine w_cond_f rfl ?_|refine w_skip ?_))
  all_goals
   refine w_callA [.ptr x 0 0 14,.int .i64 (.ofNat 1)] rfl ((takeM_ok hO.toOffMc m1 hT hp hst (by omega)).mono fun _ h2 ⟨v,tl,L',c',e,o,ol,tv,m2,lE,kp,ef,ep⟩=>?_)
   subst e
   have hI2:=kp.own hI hl2
   have hp2:c'.fp=slotP c'.fr fs.length:=by rw [ef,ep];exact hp
   rw [ea] at tv
   unfold VasR at tv
   obtain ⟨ca,tl',rfl,ta,tv⟩:=tv
   unfold VasR at tv
   subst tv
   have hsa:=ta.shape
  all_goals (repeat' (first|refine w_seq ?_|refine w_reg ?_|refine w_e ?_|refine w_opk rfl rfl ?_|refine w_cond_t rfl ?_))
  all_goals
   refine w_loadA rfl (hI2.at rfl) rfl ?_
  all_goals (repeat' (first|refine w_opk rfl rfl ?_))
  all_goals
   refine w_iadrS (j:=0) rfl rfl o.rs (by simp) ?_
   refine w_loadA rfl (slot_at (j:=0) o.rs (by simp)) (by show Nat.ble 4 ca.length=true;rw [hsa.1];rfl) ?_
   rw [show List.take 4 [ca][0]=ca from List.take_of_length_le (by show ca.length≤4;omega)]
   refine w_callA _ rfl ((hA hs m2 hp2 ta).mono fun _ h3 ⟨L3,c3,q1,q2,q3⟩=>?_)
  all_goals (repeat' (first|refine w_e ?_|refine w_rt rfl ?_))
  all_goals exact ⟨L3,c3,q1,(labN_old.trans lE hE1.1).trans q2 (((Keep.ext0 hE1).trans labN_old kp).n),((Keep.ext0 hE1).trans labN_old kp).trans (labN_old.trans lE hE1.1) q3⟩
end AmT
namespace AmT
open Go Am
set_option maxRecDepth 100000
set_option maxHeartbeats 8000000
variable {O:CallF}
structure OffCmp (O:CallF):Prop where
 cI:∀ a h,O 299 a h=none
 cK:∀ a h,O 298 a h=none
 cN:∀ a h,O 301 a h=none
 nI:∀ a h,O 324 a h=none
 nK:∀ a h,O 323 a h=none
 nN:∀ a h,O 326 a h=none
 sc:∀ a h,O 300 a h=none
 bc:∀ a h,O 325 a h=none
 co:∀ a h,O 262 a h=none
 cC:∀ a h,O 224 a h=none
 sm:∀ a h,O 173 a h=none
def sgn3 (a b:Int):Int:=if a<b then -1 else if b<a then 1 else 0
theorem sgn3_eq {a b:Int} : sgn3 a b=0↔a=b:=by
 unfold sgn3
 by_cases h:a<b
 ·rw [if_pos h];omega
 ·rw [if_neg h]
  by_cases h2:b<a
  ·rw [if_pos h2];omega
  ·rw [if_neg h2];omega
theorem cmpI_nan (hO:OffCmp O) {h0:Heap} {a:Int} : WPc tab.get O 324 [.int .i64 a] h0 (fun v h'=>v=.bool false∧h'=h0):=by
 refine w_fn' (hO.nI _ _) rfl rfl (by simp only [c324,initV,nth] <;> rfl) ?_
 repeat' (first|refine w_seq ?_|refine w_reg ?_|refine w_e ?_|refine w_neq rfl rfl (fun hc=>?_) (fun hc=>?_)|refine w_opk rfl rfl ?_|refine w_ret ?_|refine w_rt rfl ?_)
 ·exact absurd rfl hc
 ·exact ⟨rfl,rfl⟩
theorem cmpI_ok (hO:OffCmp O) {h0:Heap} {a b:Int} : WPc tab.get O 299 [.int .i64 a,.int .i64 b] h0 (fun v h'=>v=.int .i64 (sgn3 a b)∧h'=h0):=by
 refine w_fn' (hO.cI _ _) rfl rfl (by simp only [c299,initV,nth] <;> rfl) ?_
 repeat' (first|refine w_seq ?_|refine w_reg ?_|refine w_e ?_|refine w_opk rfl rfl ?_)
 refine w_call rfl ((cmpI_nan hO).mono fun _ h1 ⟨e,e2⟩=>?_)
 subst e e2
 repeat' (first|refine w_seq ?_|refine w_reg ?_|refine w_e ?_|refine w_opk rfl rfl ?_)
 refine w_call rfl ((cmpI_nan hO).mono fun _ h1 ⟨e,e2⟩=>?_)
 subst e e2
 repeat' (first|refine w_seq ?_|refine w_reg ?_|refine w_e ?_|refine w_lss rfl rfl (fun hc=>?_) (fun hc=>?_)|refine w_gtr rfl rfl (fun hc=>?_) (fun hc=>?_)|refine w_opk rfl rfl ?_|refine w_cond_t rfl ?_|refine w_cond_f rfl ?_|refine w_skip ?_|refine w_ret ?_|refine w_rt rfl ?_)
 ·exact ⟨by unfold sgn3;rw [if_pos (by assumption)];rfl,rfl⟩
 ·exact ⟨by unfold sgn3;rw [if_neg (by omega),if_pos (by omega)];rfl,rfl⟩
 ·exact ⟨by unfold sgn3;rw [if_neg (by omega),if_neg (by omega)];rfl,rfl⟩
theorem cmpK_nan (hO:OffCmp O) {h0:Heap} {a:Int} : WPc tab.get O 323 [.int .u8 a] h0 (fun v h'=>v=.bool false∧h'=h0):=by
 refine w_fn' (hO.nK _ _) rfl rfl (by simp only [c323,initV,nth] <;> rfl) ?_
 repeat' (first|refine w_seq ?_|refine w_reg ?_|refine w_e ?_|refine w_neq rfl rfl (fun hc=>?_) (fun hc=>?_)|refine w_opk rfl rfl ?_|refine w_ret ?_|refine w_rt rfl ?_)
 ·exact absurd rfl hc
 ·exact ⟨rfl,rfl⟩
theorem cmpK_ok (hO:OffCmp O) {h0:Heap} {a b:Int} : WPc tab.get O 298 [.int .u8 a,.int .u8 b] h0 (fun v h'=>v=.int .i64 (sgn3 a b)∧h'=h0):=by
 refine w_fn' (hO.cK _ _) rfl rfl (by simp only [c298,initV,nth] <;> rfl) ?_
 repeat' (first|refine w_seq ?_|refine w_reg ?_|refine w_e ?_|refine w_opk rfl rfl ?_)
 refine w_call rfl ((cmpK_nan hO).mono fun _ h1 ⟨e,e2⟩=>?_)
 subst e e2
 repeat' (first|refine w_seq ?_|refine w_reg ?_|refine w_e ?_|refine w_opk rfl rfl ?_)
 refine w_call rfl ((cmpK_nan hO).mono fun _ h1 ⟨e,e2⟩=>?_)
 subst e e2
 repeat' (first|refine w_seq ?_|refine w_reg ?_|refine w_e ?_|refine w_lss rfl rfl (fun hc=>?_) (fun hc=>?_)|refine w_gtr rfl rfl (fun hc=>?_) (fun hc=>?_)|refine w_opk rfl rfl ?_|refine w_cond_t rfl ?_|refine w_cond_f rfl ?_|refine w_skip ?_|refine w_ret ?_|refine w_rt rfl ?_)
 ·exact ⟨by unfold sgn3;rw [if_pos (by assumption)];rfl,rfl⟩
 ·exact ⟨by unfold sgn3;rw [if_neg (by omega),if_pos (by omega)];rfl,rfl⟩
 ·exact ⟨by unfold sgn3;rw [if_neg (by omega),if_neg (by omega)];rfl,rfl⟩
theorem cmpN_nan (hO:OffCmp O) {h0:Heap} {a:Int} : WPc tab.get O 326 [.int .i64 a] h0 (fun v h'=>v=.bool false∧h'=h0):=by
 refine w_fn' (hO.nN _ _) rfl rfl (by simp only [c326,initV,nth] <;> rfl) ?_
 repeat' (first|refine w_seq ?_|refine w_reg ?_|refine w_e ?_|refine w_neq rfl rfl (fun hc=>?_) (fun hc=>?_)|refine w_opk rfl rfl ?_|refine w_ret ?_|refine w_rt rfl ?_)
 ·exact absurd rfl hc
 ·exact ⟨rfl,rfl⟩
theorem cmpN_ok (hO:OffCmp O) {h0:Heap} {a b:Int} : WPc tab.get O 301 [.int .i64 a,.int .i64 b] h0 (fun v h'=>v=.int .i64 (sgn3 a b)∧h'=h0):=by
 refine w_fn' (hO.cN _ _) rfl rfl (by simp only [c301,initV,nth] <;> rfl) ?_
 repeat' (first|refine w_seq ?_|refine w_reg ?_|refine w_e ?_|refine w_opk rfl rfl ?_)
 refine w_call rfl ((cmpN_nan hO).mono fun _ h1 ⟨e,e2⟩=>?_)
 subst e e2
 repeat' (first|refine w_seq ?_|refine w_reg ?_|refine w_e ?_|refine w_opk rfl rfl ?_)
 refine w_call rfl ((cmpN_nan hO).mono fun _ h1 ⟨e,e2⟩=>?_)
 subst e e2
 repeat' (first|refine w_seq ?_|refine w_reg ?_|refine w_e ?_|refine w_lss rfl rfl (fun hc=>?_) (fun hc=>?_)|refine w_gtr rfl rfl (fun hc=>?_) (fun hc=>?_)|refine w_opk rfl rfl ?_|refine w_cond_t rfl ?_|refine w_cond_f rfl ?_|refine w_skip ?_|refine w_ret ?_|refine w_rt rfl ?_)
 ·exact ⟨by unfold sgn3;rw [if_pos (by assumption)];rfl,rfl⟩
 ·exact ⟨by unfold sgn3;rw [if_neg (by omega),if_pos (by omega)];rfl,rfl⟩
 ·exact ⟨by unfold sgn3;rw [if_neg (by omega),if_neg (by omega)];rfl,rfl⟩
theorem strCmp_ok (hO:OffCmp O) {h0:Heap} {a b:List UInt8} : WPc tab.get O 300 [.str a,.str b] h0 (fun v h'=>v=.int .i64 (cmpInt a b)∧h'=h0):=by
 refine w_fn' (hO.sc _ _) rfl rfl (by simp only [c300,initV,nth] <;> rfl) ?_
 repeat' (first|refine w_seq ?_|refine w_reg ?_|refine w_e ?_|refine w_opk rfl rfl ?_)
 refine w_callA [.str a,.str b] rfl (WPc.mono (Q:=fun v h'=>v=.int .i64 (cmpInt a b)∧h'=h0) ?_ fun _ h1 ⟨e,e2⟩=>?_)
 ·refine w_fn' (hO.bc _ _) rfl rfl (by simp only [c325,initV,nth] <;> rfl) ?_
  repeat' (first|refine w_seq ?_|refine w_reg ?_|refine w_e ?_|refine w_opk rfl rfl ?_|refine w_ret ?_|refine w_rt rfl ?_)
  exact ⟨rfl,rfl⟩
 ·subst e e2
  repeat' (first|refine w_e ?_|refine w_opk rfl rfl ?_|refine w_ret ?_|refine w_rt rfl ?_)
  exact ⟨rfl,rfl⟩
theorem take_succ_eq {α:Type} {l m:List α} {i:Nat} (h:l.take i=m.take i) (hi:i<l.length) (hj:i<m.length) (e:l[i]=m[i]):l.take (i+1)=m.take (i+1):=by
 rw [← List.take_append_getElem hi,← List.take_append_getElem hj,h,e]
theorem get_of_eq {α:Type} {l m:List α} {i:Nat} (e:l=m) (hi:i<l.length) (hj:i<m.length):l[i]=m[i]:=by
 subst e;rfl
theorem vcmp_diff (hO:OffCmp O) {Z Z':Nat→Prop} {h0:Heap} {k n k2 n2:Int} {s s2:List UInt8} {l l2:List Val} {c d:List V} {lv:Int} (ha:VaR Z h0 (.mk k n s l) c) (hb:VaR Z' h0 (.mk k2 n2 s2 l2) d) (hd:k≠k2) :
  WPc tab.get O 262 [.agg c,.agg d,.int .i64 lv] h0 (fun v h'=>(∃ c:Int,v=.int .i64 c∧c≠0)∧Ext h0 h'):=by
 refine w_fn' (hO.co _ _) rfl rfl (by simp only [c262,initV,nth] <;> rfl) ?_
 have sa:=ha.shape
 have sb:=hb.shape
 refine w_seq (w_reg (w_box rfl sa.1 sa.2 fun iA h1 hA hiA hE1=>?_))
 refine w_box rfl sb.1 sb.2 fun iB h2 hB hiB hE2=>?_
 have E2:=hE1.trans hE2
 replace hA:=hA.ext0 hE2
 unfold VaR at ha hb
 obtain ⟨v,lc,rfl,rv,va⟩:=ha
 obtain ⟨w,ld,rfl,rw_,vb⟩:=hb
 have e1:iEq k k2=false:=by rw [iEq_eq];simp [hd]
 have e2:iNot (iEq k k2)=true:=by rw [e1];rfl
 repeat' (first|refine w_seq ?_|refine w_reg ?_|refine w_e ?_|refine w_rf rfl (by assumption) (by rfl) (by rfl) (by rfl) ?_|refine w_opk rfl rfl ?_)
 rw [e2]
 repeat' (first|refine w_seq ?_|refine w_reg ?_|refine w_e ?_|refine w_off rfl ?_|refine w_rf rfl (by assumption) (by rfl) (by rfl) (by rfl) ?_|refine w_opk rfl rfl ?_|refine w_cond_t rfl ?_)
 refine w_call rfl ((cmpK_ok hO).mono fun _ h3 ⟨e1,e3⟩=>?_)
 subst e1 e3
 repeat' (first|refine w_e ?_|refine w_opk rfl rfl ?_|refine w_ret ?_|refine w_rt rfl ?_)
 exact ⟨⟨_,rfl,fun e=>hd (sgn3_eq.1 e)⟩,E2⟩
theorem vcmp_num (hO:OffCmp O) {Z Z':Nat→Prop} {h0:Heap} {k n n2:Int} {s s2:List UInt8} {l l2:List Val} {c d:List V} {lv:Nat} (ha:VaR Z h0 (.mk k n s l) c) (hb:VaR Z' h0 (.mk k n2 s2 l2) d) (hk:k=1∨k=2∨k=5) (hl:0<lv) :
  WPc tab.get O 262 [.agg c,.agg d,.int .i64 (.ofNat lv)] h0 (fun v h'=>v=.int .i64 (sgn3 n n2)∧Ext h0 h'):=by
 refine w_fn' (hO.co _ _) rfl rfl (by simp only [c262,initV,nth] <;> rfl) ?_
 have sa:=ha.shape
 have sb:=hb.shape
 refine w_seq (w_reg (w_box rfl sa.1 sa.2 fun iA h1 hA hiA hE1=>?_))
 refine w_box rfl sb.1 sb.2 fun iB h2 hB hiB hE2=>?_
 have E2:=hE1.trans hE2
 replace hA:=hA.ext0 hE2
 unfold VaR at ha hb
 obtain ⟨v,lc,rfl,rv,va⟩:=ha
 obtain ⟨w,ld,rfl,rw_,vb⟩:=hb
 obtain ⟨lv,rfl⟩:∃ x,lv=x+1:=⟨lv - 1,by omega⟩
 rcases hk with rfl | rfl | rfl
 all_goals (repeat' (first|refine w_seq ?_|refine w_reg ?_|refine w_e ?_|refine w_rf rfl (by assumption) (by rfl) (by rfl) (by rfl) ?_|refine w_on rfl ?_|refine w_opk rfl rfl ?_|refine w_cond_f rfl ?_|refine w_skip ?_))
 all_goals refine w_block ?_
 all_goals (repeat' (first|refine w_seq ?_|refine w_reg ?_|refine w_e ?_|refine w_rf rfl (by assumption) (by rfl) (by rfl) (by rfl) ?_|refine w_opk rfl rfl ?_|refine w_cond_t rfl ?_|refine w_cond_f rfl ?_|refine w_skip ?_))
 all_goals
  refine w_call rfl ((cmpI_ok hO).mono fun _ h4 ⟨e1,e3⟩=>?_)
  subst e1 e3
 all_goals (repeat' (first|refine w_e ?_|refine w_opk rfl rfl ?_|refine w_ret ?_|refine w_rt rfl ?_))
 all_goals exact ⟨rfl,E2⟩
theorem vcmp_bytes (hO:OffCmp O) {Z Z':Nat→Prop} {h0:Heap} {n n2:Int} {s s2:List UInt8} {l l2:List Val} {c d:List V} {lv:Nat} (ha:VaR Z h0 (.mk 3 n s l) c) (hb:VaR Z' h0 (.mk 3 n2 s2 l2) d) (hl:0<lv) :
  WPc tab.get O 262 [.agg c,.agg d,.int .i64 (.ofNat lv)] h0 (fun v h'=>v=.int .i64 (cmpInt s s2)∧Ext h0 h'):=by
 refine w_fn' (hO.co _ _) rfl rfl (by simp only [c262,initV,nth] <;> rfl) ?_
 have sa:=ha.shape
 have sb:=hb.shape
 refine w_seq (w_reg (w_box rfl sa.1 sa.2 fun iA h1 hA hiA hE1=>?_))
 refine w_box rfl sb.1 sb.2 fun iB h2 hB hiB hE2=>?_
 have E2:=hE1.trans hE2
 replace hA:=hA.ext0 hE2
 unfold VaR at ha hb
 obtain ⟨v,lc,rfl,rv,va⟩:=ha
 obtain ⟨w,ld,rfl,rw_,vb⟩:=hb
 obtain ⟨lv,rfl⟩:∃ x,lv=x+1:=⟨lv - 1,by omega⟩
 repeat' (first|refine w_seq ?_|refine w_reg ?_|refine w_e ?_|refine w_rf rfl (by assumption) (by rfl) (by rfl) (by rfl) ?_|refine w_on rfl ?_|refine w_opk rfl rfl ?_|refine w_cond_f rfl ?_|refine w_skip ?_)
 refine w_block ?_
 repeat' (first|refine w_seq ?_|refine w_reg ?_|refine w_e ?_|refine w_rf rfl (by assumption) (by rfl) (by rfl) (by rfl) ?_|refine w_opk rfl rfl ?_|refine w_cond_t rfl ?_|refine w_cond_f rfl ?_)
 refine w_call rfl ((strCmp_ok hO).mono fun _ h4 ⟨e1,e3⟩=>?_)
 subst e1 e3
 repeat' (first|refine w_e ?_|refine w_opk rfl rfl ?_|refine w_ret ?_|refine w_rt rfl ?_)
 exact ⟨rfl,E2⟩
theorem vcmp_tuple (hO:OffCmp O) {Z Z':Nat→Prop} {h0:Heap} {n n2:Int} {s s2:List UInt8} {l l2:List Val} {c d:List V} {lv:Nat} (ha:VaR Z h0 (.mk 4 n s l) c) (hb:VaR Z' h0 (.mk 4 n2 s2 l2) d) (hl1:l.length≤256) (hl2:l2.length≤256) (hlv:lv<16)
  (ih:∀ a∈l,∀ b∈l2,∀ {h1:Heap} {ca cb:List V},VaR Z h1 a ca→VaR Z' h1 b cb→WPc tab.get O 262 [.agg ca,.agg cb,.int .i64 (.ofNat lv)] h1 (fun v h'=>(∃ c:Int,v=.int .i64 c∧(c=0↔a=b))∧Ext h1 h')) :
  WPc tab.get O 262 [.agg c,.agg d,.int .i64 (.ofNat (lv+1))] h0 (fun v h'=>(∃ c:Int,v=.int .i64 c∧(c=0↔l=l2))∧Ext h0 h'):=by
 refine w_fn' (hO.co _ _) rfl rfl (by simp only [c262,initV,nth] <;> rfl) ?_
 have sa:=ha.shape
 have sb:=hb.shape
 refine w_seq (w_reg (w_box rfl sa.1 sa.2 fun iA h1 hA hiA hE1=>?_))
 refine w_box rfl sb.1 sb.2 fun iB h2 hB hiB hE2=>?_
 have E2:=hE1.trans hE2
 replace hA:=hA.ext0 hE2
 unfold VaR at ha hb
 obtain ⟨v,lc,rfl,rv,va⟩:=ha
 obtain ⟨w,ld,rfl,rw_,vb⟩:=hb
 have ra:=rv.1.ext0 E2
 have rb:=rw_.1.ext0 E2
 have la:=va.len
 have lb:=vb.len
 have e0:iEq (Int.ofNat lc.length) (Int.ofNat ld.length)=decide (l.length=l2.length):=by
  rw [iEq_eq,la,lb,Bool.eq_iff_iff]
  simp only [Int.ofNat_eq_natCast,beq_iff_eq,decide_eq_true_eq,Int.ofNat_inj]
 repeat' (first|refine w_seq ?_|refine w_reg ?_|refine w_e ?_|refine w_rf rfl (by assumption) (by rfl) (by rfl) (by rfl) ?_|refine w_on rfl ?_|refine w_opk rfl rfl ?_|refine w_cond_f rfl ?_|refine w_skip ?_)
 refine w_block ?_
 repeat' (first|refine w_seq ?_|refine w_reg ?_|refine w_e ?_|refine w_rf rfl (by assumption) (by rfl) (by rfl) (by rfl) ?_|refine w_len rfl (by assumption) ?_|refine w_opk rfl rfl ?_|refine w_cond_t rfl ?_|refine w_cond_f rfl ?_)
 rw [e0]
 by_cases hll:l.length=l2.length
 ·rw [show iNot (decide (l.length=l2.length))=false by simp [hll,iNot]]
  repeat' (first|refine w_seq ?_|refine w_reg ?_|refine w_e ?_|refine w_rf rfl (by assumption) (by rfl) (by rfl) (by rfl) ?_|refine w_len rfl (by assumption) ?_|refine w_opk rfl rfl ?_|refine w_cond_f rfl ?_|refine w_skip ?_)
  refine w_count (fun j vs h=>Ext h2 h∧∃ b14 b15 b16 b17,vs=[.agg [.int .u8 4,.int .i64 n,.str s,v],.agg [.int .u8 4,.int .i64 n2,.str s2,w],.int .i64 (.ofNat (lv+1)),.int .i64 (.ofNat 0),.ptr iA 0 0 4,.ptr iB 0 0 4,.bool false,.int .u8 4,.bool false,.bool false,.bool true,.bool false,.int .i64 (.ofNat j),.int .i64 (.ofNat lc.length),b14,b15,b16,b17]∧l.take j=l2.take j) lc.length ⟨ExtX.refl _ _,_,_,_,_,rfl,by simp⟩ ?_
  rintro j vs h hj ⟨hE,b14,b15,b16,b17,rfl,htk⟩
  have hA':=hA.ext0 hE
  have hB':=hB.ext0 hE
  have ra':=ra.ext0 hE
  have rb':=rb.ext0 hE
  have EE:=E2.trans hE
  by_cases hj1:j<lc.length
  ·have hj2:j<l.length:=by omega
   have hj3:j<l2.length:=by omega
   have hj4:j<ld.length:=by omega
   have ka:=(va.get hj2 hj1).ext0 EE
   have kb:=(vb.get hj3 hj4).ext0 EE
   have s1:=ka.shape
   have s2':=kb.shape
   repeat' (first|refine w_seq ?_|refine w_reg ?_|refine w_e ?_|refine w_lssN rfl rfl (fun hc=>?_) (fun hc=>?_)|refine w_opk rfl rfl ?_|refine w_cond_t rfl ?_|refine w_cond_f rfl ?_|refine w_skip ?_|refine w_exit rfl ?_|refine w_ret ?_|refine w_rt rfl ?_)
   refine w_block ?_
   repeat' (first|refine w_seq ?_|refine w_reg ?_|refine w_e ?_|refine w_rf rfl (by assumption) (by rfl) (by rfl) (by rfl) ?_|refine w_opk rfl rfl ?_)
   refine w_iadrS rfl rfl ra' hj1 ?_
   refine w_loadA rfl (slot_at ra' hj1) (by rw [s1.1];rfl) ?_
   repeat' (first|refine w_rf rfl (by assumption) (by rfl) (by rfl) (by rfl) ?_|refine w_opk rfl rfl ?_)
   refine w_iadrS rfl rfl rb' hj4 ?_
   refine w_loadA rfl (slot_at rb' hj4) (by rw [s2'.1];rfl) ?_
   rw [show List.take 4 lc[j]=lc[j] from List.take_of_length_le (by omega),show List.take 4 ld[j]=ld[j] from List.take_of_length_le (by omega)]
   repeat' (first|refine w_opq rfl rfl ?_)
   refine w_subN (b:=1) rfl (by rfl) (by omega) (by omega) ?_
   refine w_callA [.agg lc[j],.agg ld[j],.int .i64 (.ofNat lv)] rfl ((ih _ (List.getElem_mem hj2) _ (List.getElem_mem hj3) ka kb).mono fun _ h5 ⟨⟨y,e1,e5⟩,hE5⟩=>?_)
   subst e1
   by_cases hy:y=0
   ·subst hy
    repeat' (first|refine w_seq ?_|refine w_reg ?_|refine w_e ?_|refine w_addN rfl rfl (by omega) ?_|refine w_opk rfl rfl ?_|refine w_cond_f rfl ?_|refine w_skip ?_)
    exact ⟨hj1,hE.trans hE5,_,_,_,_,rfl,take_succ_eq htk hj2 hj3 (e5.1 rfl)⟩
   ·have ey:iNot (iEq y (Int.ofNat 0))=true:=by rw [iEq_eq,show (y == Int.ofNat 0)=false from Bool.eq_false_iff.2 fun q=>hy (by simpa using q)];rfl
    repeat' (first|refine w_seq ?_|refine w_reg ?_|refine w_e ?_|refine w_opk rfl rfl ?_)
    rw [ey]
    repeat' (first|refine w_seq ?_|refine w_reg ?_|refine w_e ?_|refine w_opk rfl rfl ?_|refine w_cond_t rfl ?_|refine w_ret ?_|refine w_rt rfl ?_)
    exact ⟨⟨y,rfl,fun h=>absurd h hy,fun h=>absurd (e5.2 (get_of_eq h hj2 hj3)) hy⟩,EE.trans hE5⟩
   exact absurd hj1 (by omega)
  ·repeat' (first|refine w_seq ?_|refine w_reg ?_|refine w_e ?_|refine w_lssN rfl rfl (fun hc=>?_) (fun hc=>?_)|refine w_opk rfl rfl ?_|refine w_cond_t rfl ?_|refine w_cond_f rfl ?_|refine w_skip ?_|refine w_exit rfl ?_|refine w_ret ?_|refine w_rt rfl ?_)
   all_goals first
    | exact absurd (by assumption) hj1
    | skip
   rw [List.take_of_length_le (by omega),List.take_of_length_le (by omega)] at htk
   exact ⟨⟨0,rfl,fun _=>htk,fun _=>rfl⟩,EE⟩
 ·rw [show iNot (decide (l.length=l2.length))=true by simp [hll,iNot]]
  repeat' (first|refine w_seq ?_|refine w_reg ?_|refine w_rf rfl (by assumption) (by rfl) (by rfl) (by rfl) ?_|refine w_len rfl (by assumption) ?_|refine w_cond_t rfl ?_)
  refine w_call rfl ((cmpN_ok hO).mono fun _ h4 ⟨e1,e3⟩=>?_)
  subst e1 e3
  repeat' (first|refine w_e ?_|refine w_opk rfl rfl ?_|refine w_ret ?_|refine w_rt rfl ?_)
  refine ⟨⟨_,rfl,fun h=>?_,fun h=>absurd (by rw [h]) hll⟩,E2⟩
  have:=sgn3_eq.1 h
  have h8:((l.length:Nat):Int)=((l2.length:Nat):Int):=by rw [← la,← lb];exact this
  exact absurd (by omega) hll
def okD (lv:Nat):Val→Prop
 | .mk k n s l=>0<lv∧((k=1∨k=2∨k=5)∧s=[]∧l=[]∨k=3∧n=0∧l=[]∨k=4∧n=0∧s=[]∧okVs (lv - 1) l)
theorem okD_of {lv:Nat} : ∀ {v:Val},okV lv v→okD lv v
 | .mk k n s l,h=>by
  unfold okV at h
  refine ⟨h.1,?_⟩
  rcases h.2 with h | h | h | h | h
  ·exact .inl ⟨.inl h.1,h.2.2.2.1,h.2.2.2.2⟩
  ·exact .inl ⟨.inr (.inl h.1),h.2.2.1,h.2.2.2⟩
  ·exact .inr (.inl ⟨h.1,h.2.1,h.2.2.2⟩)
  ·exact .inr (.inr h)
  ·exact .inl ⟨.inr (.inr h.1),h.2.2.2.1,h.2.2.2.2⟩
theorem okD_w {v:Val} (h:OkW v):okD 16 v∧pcs v≤256:=by
 rcases h with h | ⟨n,_,rfl⟩
 ·exact ⟨okD_of h.1,h.2⟩
 ·exact ⟨⟨by decide,.inl ⟨.inr (.inr rfl),rfl,rfl⟩⟩,by unfold actV pcs;simp [pcss]⟩
theorem ltBytes_irr:∀ a:List UInt8,ltBytes a a=false
 | []=>rfl
 | a :: l=>by
  unfold ltBytes
  rw [show Nat.blt a.toNat a.toNat=false from Bool.eq_false_iff.2 fun q=>absurd (nblt.1 q) (Nat.lt_irrefl _),show Nat.beq a.toNat a.toNat=true from nbeq.2 rfl]
  exact ltBytes_irr l
theorem cmpInt_zero {a b:List UInt8} : cmpInt a b=0↔a=b:=by
 unfold cmpInt
 constructor
 ·intro h
  cases h1:ltBytes a b with
  | true=>rw [h1] at h;cases h
  | false=>
   rw [h1] at h
   cases h2:eqBytes a b with
   | true=>exact eqBytes_iff.1 h2
   | false=>rw [h2] at h;cases h
 ·rintro rfl
  rw [ltBytes_irr,eqBytes_iff.2 rfl]
theorem vcmp_ok (hO:OffCmp O) {Z Z':Nat→Prop} : ∀ (m:Nat) (a b:Val) {lv:Nat} {h0:Heap} {c d:List V},sizeOf a<m→VaR Z h0 a c→VaR Z' h0 b d→okD lv a→okD lv b→pcs a≤256→pcs b≤256→lv≤16→
  WPc tab.get O 262 [.agg c,.agg d,.int .i64 (.ofNat lv)] h0 (fun v h'=>(∃ x:Int,v=.int .i64 x∧(x=0↔a=b)∧(a.kind=b.kind→a.kind=1∨a.kind=3→x=ordV a b))∧Ext h0 h')
 | 0,a,_,_,_,_,_,hm,_,_,_,_,_,_,_=>absurd hm (Nat.not_lt_zero _)
 | m+1,.mk k n s l,.mk k2 n2 s2 l2,lv,h0,c,d,hm,ha,hb,ka,kb,pa,pb,hlv=>by
  by_cases hd:k=k2
  ·subst hd
   have hpl:pcs (.mk k n s l)=1+pcss l:=rfl
   have hpl2:pcs (.mk k n2 s2 l2)=1+pcss l2:=rfl
   have hll:=pcss_len l
   have hll2:=pcss_len l2
   unfold okD at ka kb
   by_cases h4:k=4
   ·subst h4
    have q:n=0∧s=[]∧okVs (lv - 1) l:=by
     rcases ka.2 with h | h | h
     ·exact absurd h.1 (by decide)
     ·exact absurd h.1 (by decide)
     ·exact h.2
    have q2:n2=0∧s2=[]∧okVs (lv - 1) l2:=by
     rcases kb.2 with h | h | h
     ·exact absurd h.1 (by decide)
     ·exact absurd h.1 (by decide)
     ·exact h.2
    obtain ⟨rfl,rfl,ql⟩:=q
    obtain ⟨rfl,rfl,ql2⟩:=q2
    obtain ⟨lv,rfl⟩:∃ x,lv=x+1:=⟨lv - 1,by omega⟩
    refine (vcmp_tuple hO ha hb (by omega) (by omega) (by omega) fun a ha' b hb' h1 ca cb r1 r2=>(vcmp_ok hO m a b (by have:=List.sizeOf_lt_of_mem ha';simp only [Val.mk.sizeOf_spec] at hm;omega) r1 r2 (okD_of (ql.mem a ha')) (okD_of (ql2.mem b hb')) (by have:=pcs_mem ha';omega) (by have:=pcs_mem hb';omega) (by omega)).mono fun v h' ⟨⟨x,e,ex,_⟩,hE⟩=>⟨⟨x,e,ex⟩,hE⟩).mono fun v h' ⟨⟨x,e,ex⟩,hE⟩=>⟨⟨x,e,?_,fun _ h=>?_⟩,hE⟩
    ·rw [ex]
     simp
    ·rcases h with h | h
     ·exact absurd (show (4:Int)=1 from h) (by decide)
     ·exact absurd (show (4:Int)=3 from h) (by decide)
   ·by_cases h3:k=3
    ·subst h3
     have q:n=0∧l=[]:=by
      rcases ka.2 with h | h | h
      ·exact absurd h.1 (by decide)
      ·exact h.2
      ·exact absurd h.1 (by decide)
     have q2:n2=0∧l2=[]:=by
      rcases kb.2 with h | h | h
      ·exact absurd h.1 (by decide)
      ·exact h.2
      ·exact absurd h.1 (by decide)
     obtain ⟨rfl,rfl⟩:=q
     obtain ⟨rfl,rfl⟩:=q2
     refine (vcmp_bytes hO ha hb ka.1).mono fun v h' ⟨e,hE⟩=>⟨⟨_,e,?_,fun _ _=>rfl⟩,hE⟩
     rw [cmpInt_zero]
     simp
    ·have q:(k=1∨k=2∨k=5)∧s=[]∧l=[]:=by
      rcases ka.2 with h | h | h
      ·exact h
      ·exact absurd h.1 h3
      ·exact absurd h.1 h4
     have q2:s2=[]∧l2=[]:=by
      rcases kb.2 with h | h | h
      ·exact h.2
      ·exact absurd h.1 h3
      ·exact absurd h.1 h4
     obtain ⟨qk,rfl,rfl⟩:=q
     obtain ⟨rfl,rfl⟩:=q2
     refine (vcmp_num hO ha hb qk ka.1).mono fun v h' ⟨e,hE⟩=>⟨⟨_,e,?_,fun _ h=>?_⟩,hE⟩
     ·rw [sgn3_eq]
      simp
     ·rcases h with h | h
      ·obtain rfl:k=1:=h
       rfl
      ·exact absurd h h3
  ·refine (vcmp_diff hO ha hb hd).mono fun v h' ⟨⟨x,e,ex⟩,hE⟩=>⟨⟨x,e,⟨fun h=>absurd h ex,fun h=>?_⟩,fun h _=>absurd h hd⟩,hE⟩
   simp only [Val.mk.injEq] at h
   exact absurd h.1 hd
theorem vCompare_ok (hO:OffCmp O) {Z Z':Nat→Prop} {a b:Val} {h0:Heap} {c d:List V} (ha:VaR Z h0 a c) (hb:VaR Z' h0 b d) (ka:OkW a) (kb:OkW b) :
  WPc tab.get O 224 [.agg c,.agg d] h0 (fun v h'=>(∃ x:Int,v=.int .i64 x∧(x=0↔a=b)∧(a.kind=b.kind→a.kind=1∨a.kind=3→x=ordV a b))∧Ext h0 h'):=by
 have sa:=ha.shape
 have sb:=hb.shape
 refine w_fn' (hO.cC _ _) rfl rfl (by simp only [c224,initV,nth] <;> rfl) ?_
 refine w_seq (w_reg (w_box rfl sa.1 sa.2 fun iA h1 hA hiA hE1=>?_))
 refine w_box rfl sb.1 sb.2 fun iB h2 hB hiB hE2=>?_
 have E2:=hE1.trans hE2
 replace hA:Own h2 iA c:=hA.ext0 hE2
 replace hB:Own h2 iB d:=hB
 repeat' (first|refine w_seq ?_|refine w_reg ?_|refine w_e ?_|refine w_opk rfl rfl ?_)
 refine w_loadA rfl (hA.at sa.1) (by rw [sa.1];rfl) ?_
 refine w_loadA rfl (hB.at sb.1) (by rw [sb.1];rfl) ?_
 rw [show List.take 4 c=c from List.take_of_length_le (by omega),show List.take 4 d=d from List.take_of_length_le (by omega)]
 refine w_callA [.agg c,.agg d,.int .i64 (.ofNat 16)] rfl ((vcmp_ok hO _ a b (Nat.lt_succ_self _) (ha.ext0 E2) (hb.ext0 E2) (okD_w ka).1 (okD_w kb).1 (okD_w ka).2 (okD_w kb).2 (by decide)).mono fun _ h3 ⟨⟨x,e1,e2⟩,hE3⟩=>?_)
 subst e1
 repeat' (first|refine w_e ?_|refine w_opk rfl rfl ?_|refine w_ret ?_|refine w_rt rfl ?_)
 exact ⟨⟨x,rfl,e2⟩,E2.trans hE3⟩
theorem vSame_ok (hO:OffCmp O) {Z Z':Nat→Prop} {a b:Val} {h0:Heap} {c d:List V} (ha:VaR Z h0 a c) (hb:VaR Z' h0 b d) (ka:OkW a) (kb:OkW b) :
  WPc tab.get O 173 [.agg c,.agg d] h0 (fun v h'=>v=.bool (eqVb a b)∧Ext h0 h'):=by
 have sa:=ha.shape
 have sb:=hb.shape
 refine w_fn' (hO.sm _ _) rfl rfl (by simp only [c173,initV,nth] <;> rfl) ?_
 refine w_seq (w_reg (w_box rfl sa.1 sa.2 fun iA h1 hA hiA hE1=>?_))
 refine w_box rfl sb.1 sb.2 fun iB h2 hB hiB hE2=>?_
 have E2:=hE1.trans hE2
 replace hA:Own h2 iA c:=hA.ext0 hE2
 replace hB:Own h2 iB d:=hB
 repeat' (first|refine w_seq ?_|refine w_reg ?_|refine w_e ?_|refine w_opk rfl rfl ?_)
 refine w_loadA rfl (hA.at sa.1) (by rw [sa.1];rfl) ?_
 refine w_loadA rfl (hB.at sb.1) (by rw [sb.1];rfl) ?_
 rw [show List.take 4 c=c from List.take_of_length_le (by omega),show List.take 4 d=d from List.take_of_length_le (by omega)]
 refine w_callA [.agg c,.agg d] rfl ((vCompare_ok hO (ha.ext0 E2) (hb.ext0 E2) ka kb).mono fun _ h3 ⟨⟨x,e1,e2,_⟩,hE3⟩=>?_)
 subst e1
 have ex:iEq x (Int.ofNat 0)=eqVb a b:=by
  rw [iEq_eq]
  by_cases h:a=b
  ·rw [eqVb_iff.2 h]
   simpa using e2.2 h
  ·rw [show eqVb a b=false from Bool.eq_false_iff.2 fun q=>h (eqVb_iff.1 q)]
   simpa using fun q=>h (e2.1 q)
 repeat' (first|refine w_e ?_|refine w_opk rfl rfl ?_|refine w_ret ?_|refine w_rt rfl ?_)
 exact ⟨by rw [← ex];rfl,E2.trans hE3⟩
end AmT
namespace AmT
open Go Am
set_option maxRecDepth 100000
set_option maxHeartbeats 8000000
variable {O:CallF}
structure OffAt (O:CallF):Prop where
 le:∀ a h,O 247 a h=none
 nu:∀ a h,O 246 a h=none
 at_:∀ a h,O 249 a h=none
theorem splice4 {c d:List V} (hc:c.length=4) (hd:d.length=4):splice d 0 c=c:=by
 match c,hc,d,hd with
 | [_,_,_,_],_,[_,_,_,_],_=>rfl
theorem tail4 {h:Heap} {iR:Nat} {c:List V} (hR:Own h iR c) (hc:c.length=4) {vs:List V} {n:Nat} {t:V} (hn:nth vs n=some (.ptr iR 0 0 4)) {k:Nat} (hk:nth vs k=some t):resV vs h [.cell n true 4,.var k]=some [.agg c,t]:=by
 have e1:=(hR.at (hi:=4) hc).agg (n:=4) (by omega)
 rw [show List.take 4 c=c from List.take_of_length_le (by omega)] at e1
 simp only [resV,hn,hk,e1]
theorem at_ok (hO:OffAt O) {Z:Nat→Prop} {h0:Heap} {a b:Val} {ca cb:List V} (ha:VaR Z h0 a ca) (hb:VaR Z h0 b cb) (hz:∀ i,Z i→i<h0.n) :
  WPc tab.get O 249 [.agg ca,.agg cb] h0 (fun r h'=>∃ cv,r=.tuple [.agg cv,.int .i64 (atV a b).2]∧VaR (fun i=>Z i∨h0.n≤i) h' (atV a b).1 cv∧Ext h0 h'):=by
 have sa:=ha.shape
 have sb:=hb.shape
 refine w_fn' (hO.at_ _ _) rfl rfl (by simp only [c249,initV,nth] <;> rfl) ?_
 refine w_seq (w_reg (w_box rfl sa.1 sa.2 fun iA h1 hA hiA hE1=>?_))
 refine w_box rfl sb.1 sb.2 fun iB h2 hB hiB hE2=>?_
 refine w_alloc fun iR h3 hR hiR hE3=>?_
 have E3:=(hE1.trans hE2).trans hE3
 have n1:=hE1.1
 have n2:=hE2.1
 replace hA:Own h3 iA ca:=(hA.ext0 hE2).ext0 hE3
 replace hB:Own h3 iB cb:=hB.ext0 hE3
 have ha3:=ha.ext0 E3
 repeat' (first|refine w_seq ?_|refine w_reg ?_|refine w_e ?_|refine w_opk rfl rfl ?_)
 refine w_loadA rfl (hA.at sa.1) (by rw [sa.1];rfl) ?_
 rw [show List.take 4 ca=ca from List.take_of_length_le (by omega)]
 refine w_call rfl ((length_ok hO.le ha3).mono fun _ h4 ⟨e,hE4⟩=>?_)
 subst e
 have hA4:=hA.ext0 hE4
 have hB4:=hB.ext0 hE4
 have hR4:=hR.ext0 hE4
 have E4:=E3.trans hE4
 have ha4:VaR Z h4 a ca:=ha.ext E4 (S:=[]) (by simp) fun j hj _=>hj
 obtain ⟨ka,na,ta,la⟩:=a
 obtain ⟨kb,nb,tb,lb⟩:=b
 have hvb:=hb
 unfold VaR at hvb
 obtain ⟨vb,lcb,rfl,rb,vb2⟩:=hvb
 have hva:=ha4
 unfold VaR at hva
 obtain ⟨va,lca,rfl,ra,va2⟩:=hva
 have hlc:=va2.len
 unfold lenR
 cases hl:lenVal (.mk ka na ta la) with
 | none=>
  have e9:atV (.mk ka na ta la) (.mk kb nb tb lb)=(zeroV,1):=by unfold atV;rw [hl]
  rw [e9]
  repeat' (first|refine w_seq ?_|refine w_e ?_|refine w_opk rfl rfl ?_)
  refine w_block ?_
  repeat' (first|refine w_seq ?_|refine w_reg ?_|refine w_e ?_|refine w_off rfl ?_|refine w_opk rfl rfl ?_|refine w_cond_t rfl ?_)
  refine w_build [.int .u8 0,.int .i64 (.ofNat 0),.str [],.nils] rfl rfl ?_
  refine w_store rfl rfl hR4 rfl rfl (by decide) (by simp) fun h5 hR5 hE5 hn5=>?_
  replace hR5:Own h5 iR [.int .u8 0,.int .i64 (.ofNat 0),.str [],.nils]:=hR5
  repeat' (first|refine w_e ?_|refine w_opk rfl rfl ?_|refine w_ret ?_)
  exact w_rt (l:=[.agg [.int .u8 0,.int .i64 (.ofNat 0),.str [],.nils],.int .i64 (.ofNat 1)]) (tail4 hR5 rfl rfl rfl) ⟨_,rfl,VaR.num 0 0,E4.step hE5 fun jd hjd=>by simp at hjd;exact .inr (by omega)⟩
 | some n=>
  by_cases hkb:kb=1
  ·subst hkb
   by_cases hr:nb<0∨(n:Int)≤nb
   ·have e9:atV (.mk ka na ta la) (.mk 1 nb tb lb)=(zeroV,2):=by
     unfold atV
     rw [hl]
     show (if (1:Int)≠1 then (zeroV,(1:Int)) else if nb<0∨(n:Int)≤nb then (zeroV,2) else _)=_
     rw [if_neg (by decide),if_pos hr]
    rw [e9]
    repeat' (first|refine w_seq ?_|refine w_e ?_|refine w_opk rfl rfl ?_)
    refine w_block ?_
    repeat' (first|refine w_seq ?_|refine w_reg ?_|refine w_e ?_|refine w_rf rfl (by assumption) (by rfl) (by rfl) (by rfl) ?_|refine w_rfg rfl rfl (by assumption) (by rfl) (by rfl) (by rfl) (by rfl) ?_|refine w_on rfl ?_|refine w_opk rfl rfl ?_|refine w_cond_f rfl ?_)
    have e1:iLt nb (Int.ofNat 0)=decide (nb<0):=iLt_eq _ _
    rw [e1]
    by_cases hn:nb<0
    ·rw [show decide (nb<0)=true from decide_eq_true hn]
     repeat' (first|refine w_seq ?_|refine w_reg ?_|refine w_e ?_|refine w_off rfl ?_|refine w_opk rfl rfl ?_|refine w_cond_t rfl ?_)
     refine w_build [.int .u8 0,.int .i64 (.ofNat 0),.str [],.nils] rfl rfl ?_
     refine w_store rfl rfl hR4 rfl rfl (by decide) (by simp) fun h5 hR5 hE5 hn5=>?_
     replace hR5:Own h5 iR [.int .u8 0,.int .i64 (.ofNat 0),.str [],.nils]:=hR5
     repeat' (first|refine w_e ?_|refine w_opk rfl rfl ?_|refine w_ret ?_)
     exact w_rt (l:=[.agg [.int .u8 0,.int .i64 (.ofNat 0),.str [],.nils],.int .i64 (.ofNat 2)]) (tail4 hR5 rfl rfl rfl) ⟨_,rfl,VaR.num 0 0,E4.step hE5 fun jd hjd=>by simp at hjd;exact .inr (by omega)⟩
    ·rw [show decide (nb<0)=false from decide_eq_false hn]
     repeat' (first|refine w_e ?_|refine w_rfg rfl rfl (by assumption) (by rfl) (by rfl) (by rfl) (by rfl) ?_|refine w_on rfl ?_|refine w_opk rfl rfl ?_)
     have e2:iNot (iLt nb (Int.ofNat n))=true:=by rw [iLt_eq,show decide (nb<Int.ofNat n)=false from decide_eq_false (by show ¬ nb<(n:Int);omega)];rfl
     rw [e2]
     repeat' (first|refine w_seq ?_|refine w_reg ?_|refine w_cond_t rfl ?_)
     refine w_build [.int .u8 0,.int .i64 (.ofNat 0),.str [],.nils] rfl rfl ?_
     refine w_store rfl rfl hR4 rfl rfl (by decide) (by simp) fun h5 hR5 hE5 hn5=>?_
     replace hR5:Own h5 iR [.int .u8 0,.int .i64 (.ofNat 0),.str [],.nils]:=hR5
     repeat' (first|refine w_e ?_|refine w_opk rfl rfl ?_|refine w_ret ?_)
     exact w_rt (l:=[.agg [.int .u8 0,.int .i64 (.ofNat 0),.str [],.nils],.int .i64 (.ofNat 2)]) (tail4 hR5 rfl rfl rfl) ⟨_,rfl,VaR.num 0 0,E4.step hE5 fun jd hjd=>by simp at hjd;exact .inr (by omega)⟩
   ·obtain ⟨j,rfl⟩:∃ j:Nat,nb=Int.ofNat j:=⟨nb.toNat,(Int.toNat_of_nonneg (by omega)).symm⟩
    have hj:j<n:=by
     have:¬ (n:Int)≤(j:Int):=fun q=>hr (.inr q)
     omega
    have e1:iLt (Int.ofNat j) (Int.ofNat 0)=false:=by cases j <;> rfl
    have e2:iNot (iLt (Int.ofNat j) (Int.ofNat n))=false:=by
     show (!Nat.blt j n)=false
     rw [nblt.2 hj];rfl
    have e3:∀ x y:Val×Int,(if (1:Int)≠1 then x else if Int.ofNat j<0∨(n:Int)≤Int.ofNat j then x else y)=y:=fun x y=>by
     rw [if_neg (by decide),if_neg hr]
    by_cases h4:ka=4
    ·subst h4
     have hn:la.length=n:=by
      have:(if (4:Int)=3 then some ta.length else if (4:Int)=4 then some la.length else none)=some n:=hl
      rw [if_neg (by decide),if_pos rfl] at this
      exact Option.some.inj this
     have hja:j<la.length:=by omega
     have hjc:j<lca.length:=by omega
     have e9:atV (.mk 4 na ta la) (.mk 1 (Int.ofNat j) tb lb)=(la[j],0):=by
      unfold atV
      rw [hl]
      show (if (1:Int)≠1 then (zeroV,(1:Int)) else if Int.ofNat j<0∨(n:Int)≤Int.ofNat j then (zeroV,2) else if (4:Int)=4 then ((la[(Int.ofNat j).toNat]?).getD zeroV,0) else _)=_
      rw [if_neg (by decide),if_neg hr,if_pos rfl]
      show ((la[j]?).getD zeroV,(0:Int))=_
      rw [List.getElem?_eq_getElem hja]
      rfl
     rw [e9]
     have vj:=va2.get hja hjc
     have sj:=vj.shape
     repeat' (first|refine w_seq ?_|refine w_e ?_|refine w_opk rfl rfl ?_)
     refine w_block ?_
     repeat' (first|refine w_seq ?_|refine w_reg ?_|refine w_e ?_|refine w_rf rfl (by assumption) (by rfl) (by rfl) (by rfl) ?_|refine w_rfg rfl rfl (by assumption) (by rfl) (by rfl) (by rfl) (by rfl) ?_|refine w_on rfl ?_|refine w_opk rfl rfl ?_|refine w_cond_f rfl ?_)
     rw [e2]
     repeat' (first|refine w_seq ?_|refine w_reg ?_|refine w_e ?_|refine w_rf rfl (by assumption) (by rfl) (by rfl) (by rfl) ?_|refine w_opk rfl rfl ?_|refine w_cond_t rfl ?_|refine w_cond_f rfl ?_)
     refine w_iadrS rfl rfl ra.1 hjc ?_
     refine w_loadA rfl (slot_at ra.1 hjc) (by rw [sj.1];rfl) ?_
     rw [show List.take 4 lca[j]=lca[j] from List.take_of_length_le (by omega)]
     refine w_store rfl rfl hR4 (show (V.agg lca[j]).cells.length=4 from sj.1) sj.2 (by decide) (by simp) fun h5 hR5 hE5 hn5=>?_
     replace hR5:Own h5 iR lca[j]:=by
      have:=hR5
      rw [show (V.agg lca[j]).cells=lca[j] from rfl,splice4 sj.1 rfl] at this
      exact this
     repeat' (first|refine w_e ?_|refine w_opk rfl rfl ?_|refine w_ret ?_)
     exact w_rt (l:=[.agg lca[j],.int .i64 (.ofNat 0)]) (tail4 hR5 sj.1 rfl rfl) ⟨_,rfl,vj.ext hE5 (fun i hi hm=>by simp at hm;have:=hz i hi;have:=E4.1;have:=hiR;omega) fun i hi _=>.inl hi,E4.step hE5 fun jd hjd=>by simp at hjd;exact .inr (by omega)⟩
    ·have h3:ka=3:=by
      have:(if ka=3 then some ta.length else if ka=4 then some la.length else none)=some n:=hl
      by_cases h3:ka=3
      ·exact h3
      ·rw [if_neg h3,if_neg h4] at this;cases this
     subst h3
     have hn:ta.length=n:=by
      have:(if (3:Int)=3 then some ta.length else if (3:Int)=4 then some la.length else none)=some n:=hl
      rw [if_pos rfl] at this
      exact Option.some.inj this
     have hja:j<ta.length:=by omega
     have e9:atV (.mk 3 na ta la) (.mk 1 (Int.ofNat j) tb lb)=(numV' (ta[j].toNat:Int),0):=by
      unfold atV
      rw [hl]
      show (if (1:Int)≠1 then (zeroV,(1:Int)) else if Int.ofNat j<0∨(n:Int)≤Int.ofNat j then (zeroV,2) else if (3:Int)=4 then _ else (numV' (((ta[(Int.ofNat j).toNat]?).getD 0).toNat:Int),0))=_
      rw [if_neg (by decide),if_neg hr,if_neg (by decide)]
      show (numV' (((ta[j]?).getD 0).toNat:Int),(0:Int))=_
      rw [List.getElem?_eq_getElem hja]
      rfl
     rw [e9]
     have hu:ta[j].toNat<256:=UInt8.toNat_lt _
     repeat' (first|refine w_seq ?_|refine w_e ?_|refine w_opk rfl rfl ?_)
     refine w_block ?_
     repeat' (first|refine w_seq ?_|refine w_reg ?_|refine w_e ?_|refine w_rf rfl (by assumption) (by rfl) (by rfl) (by rfl) ?_|refine w_rfg rfl rfl (by assumption) (by rfl) (by rfl) (by rfl) (by rfl) ?_|refine w_on rfl ?_|refine w_opk rfl rfl ?_|refine w_cond_f rfl ?_)
     rw [e2]
     repeat' (first|refine w_seq ?_|refine w_reg ?_|refine w_e ?_|refine w_rf rfl (by assumption) (by rfl) (by rfl) (by rfl) ?_|refine w_opk rfl rfl ?_|refine w_cond_f rfl ?_|refine w_skip ?_)
     refine w_idxS rfl rfl hja ?_
     refine w_toI (b:=Int.ofNat ta[j].toNat) rfl (wrap_i64_nat (by omega)) ?_
     refine w_callA [.int .i64 (Int.ofNat ta[j].toNat)] rfl ((numberV_ok hO.nu).mono fun _ h5 ⟨e,hE5⟩=>?_)
     subst e
     refine w_store rfl rfl (hR4.ext0 hE5) rfl rfl (by decide) (by simp) fun h6 hR6 hE6 hn6=>?_
     replace hR6:Own h6 iR [.int .u8 1,.int .i64 (.ofNat ta[j].toNat),.str [],.nils]:=hR6
     repeat' (first|refine w_e ?_|refine w_opk rfl rfl ?_|refine w_ret ?_)
     exact w_rt (l:=[.agg [.int .u8 1,.int .i64 (.ofNat ta[j].toNat),.str [],.nils],.int .i64 (.ofNat 0)]) (tail4 hR6 rfl rfl rfl) ⟨_,rfl,VaR.num 1 _,(E4.trans hE5).step hE6 fun jd hjd=>by simp at hjd;exact .inr (by omega)⟩
  ·have e9:atV (.mk ka na ta la) (.mk kb nb tb lb)=(zeroV,1):=by
    unfold atV
    rw [hl]
    show (if kb≠1 then (zeroV,(1:Int)) else _)=_
    rw [if_pos hkb]
   rw [e9]
   repeat' (first|refine w_seq ?_|refine w_e ?_|refine w_opk rfl rfl ?_)
   refine w_block ?_
   repeat' (first|refine w_seq ?_|refine w_reg ?_|refine w_e ?_|refine w_rfg rfl rfl (by assumption) (by rfl) (by rfl) (by rfl) (by rfl) ?_|refine w_on rfl ?_|refine w_opk rfl rfl ?_)
   have e1:iNot (iEq kb (Int.ofNat 1))=true:=by rw [iEq_eq,show (kb == Int.ofNat 1)=false from Bool.eq_false_iff.2 fun q=>hkb (by simpa using q)];rfl
   rw [e1]
   repeat' (first|refine w_seq ?_|refine w_reg ?_|refine w_cond_t rfl ?_)
   refine w_build [.int .u8 0,.int .i64 (.ofNat 0),.str [],.nils] rfl rfl ?_
   refine w_store rfl rfl hR4 rfl rfl (by decide) (by simp) fun h5 hR5 hE5 hn5=>?_
   replace hR5:Own h5 iR [.int .u8 0,.int .i64 (.ofNat 0),.str [],.nils]:=hR5
   repeat' (first|refine w_e ?_|refine w_opk rfl rfl ?_|refine w_ret ?_)
   exact w_rt (l:=[.agg [.int .u8 0,.int .i64 (.ofNat 0),.str [],.nils],.int .i64 (.ofNat 1)]) (tail4 hR5 rfl rfl rfl) ⟨_,rfl,VaR.num 0 0,E4.step hE5 fun jd hjd=>by simp at hjd;exact .inr (by omega)⟩
end AmT
