/-
  The interpreter under the abstract machine, part ID. Conditions: those that each theorem states.
-/
import Derived.Test.YtfiajgdgjajcnaaGreatDoorIC
import Derived.Test.YtfiajgdgjajcnaaGreatDoorIA
import Derived.Test.YtfiajgdgjajcnaaGreatDoorIB
set_option linter.unusedSimpArgs false
set_option linter.unusedVariables false
namespace AmT
open Go Am
set_option maxRecDepth 100000
set_option maxHeartbeats 8000000
variable {O:CallF}
structure OffTw (O:CallF):Prop extends OffAt O,OffCmp O where
 tw:∀ a h,O 198 a h=none
 ar:∀ a h,O 250 a h=none
 ml:∀ a h,O 263 a h=none
 trt:∀ a h,O 248 a h=none
theorem iEq_f {a:Int} {n:Nat} (h:a≠n):iEq a (Int.ofNat n)=false:=by
 rw [iEq_eq];exact Bool.eq_false_iff.2 fun q=>h (by simpa using q)
theorem iEq_t {a:Int} {n:Nat} (h:a=n):iEq a (Int.ofNat n)=true:=by
 subst h;rw [iEq_eq];simp
theorem both_f {a b:Int} {n:Nat} (h:¬ (a=n∧b=n)):(iEq a (Int.ofNat n) && iEq b (Int.ofNat n))=false:=by
 by_cases h1:a=n
 ·rw [iEq_f (a:=b) fun q=>h ⟨h1,q⟩];simp
 ·rw [iEq_f h1];rfl
theorem both_t {a b:Int} {n:Nat} (h:a=n∧b=n):(iEq a (Int.ofNat n) && iEq b (Int.ofNat n))=true:=by
 rw [iEq_t h.1,iEq_t h.2];rfl
theorem two_arith (hO:OffTw O) {o:Int} {a b:Val} (ho:4≤o∧o≤8) (ka:OkW a) (kb:OkW b):TwoOk O o a b:=by
 intro Z h0 ca cb ha hb hz
 have sa:=ha.shape
 have sb:=hb.shape
 refine w_fn' (hO.tw _ _) rfl rfl (by simp only [c198,initV,nth] <;> rfl) ?_
 refine w_seq (w_reg (w_box rfl sa.1 sa.2 fun iA h1 hA hiA hE1=>?_))
 refine w_box rfl sb.1 sb.2 fun iB h2 hB hiB hE2=>?_
 refine w_alloc fun iR h3 hR hiR hE3=>?_
 have E3:=(hE1.trans hE2).trans hE3
 have n1:=hE1.1
 have n2:=hE2.1
 replace hA:Own h3 iA ca:=(hA.ext0 hE2).ext0 hE3
 replace hB:Own h3 iB cb:=hB.ext0 hE3
 have ra:=ka.i64
 have rb:=kb.i64
 obtain ⟨k1,na,ta,la⟩:=a
 obtain ⟨k2,nb,tb,lb⟩:=b
 unfold VaR at ha hb
 obtain ⟨va,lca,rfl,ra1,va2⟩:=ha
 obtain ⟨vb,lcb,rfl,rb1,vb2⟩:=hb
 have o11:iEq o (Int.ofNat 11)=false:=iEq_f (by omega)
 have o12:iEq o (Int.ofNat 12)=false:=iEq_f (by omega)
 have o13:iEq o (Int.ofNat 13)=false:=iEq_f (by omega)
 have o14:iEq o (Int.ofNat 14)=false:=iEq_f (by omega)
 have o15:iEq o (Int.ofNat 15)=false:=iEq_f (by omega)
 have o16:iEq o (Int.ofNat 16)=false:=iEq_f (by omega)
 have o17:iEq o (Int.ofNat 17)=false:=iEq_f (by omega)
 have o18:iEq o (Int.ofNat 18)=false:=iEq_f (by omega)
 refine w_opk rfl rfl ?_
 refine w_e ?_
 refine w_seq (w_regB (b:=iEq k1 (Int.ofNat 1) && iEq k2 (Int.ofNat 1)) ?_ (by simp only [setV] <;> rfl) ?_)
 ·repeat' (first|refine w_rf rfl (by assumption) (by rfl) (by rfl) (by rfl) ?_|refine w_opk rfl rfl ?_)
  generalize iEq k1 (Int.ofNat 1)=x
  cases x
  all_goals (repeat' (first|refine w_off rfl ?_|refine w_rfg rfl rfl (by assumption) (by rfl) (by rfl) (by rfl) (by rfl) ?_|refine w_on rfl ?_|refine w_opk rfl rfl ?_))
  all_goals exact w_nil ⟨rfl,rfl⟩
 refine w_seq (w_regB (b:=iEq k1 (Int.ofNat 3) && iEq k2 (Int.ofNat 3)) ?_ (by simp only [setV] <;> rfl) ?_)
 ·repeat' (first|refine w_rf rfl (by assumption) (by rfl) (by rfl) (by rfl) ?_|refine w_opk rfl rfl ?_)
  generalize iEq k1 (Int.ofNat 3)=x
  cases x
  all_goals (repeat' (first|refine w_off rfl ?_|refine w_rfg rfl rfl (by assumption) (by rfl) (by rfl) (by rfl) (by rfl) ?_|refine w_on rfl ?_|refine w_opk rfl rfl ?_))
  all_goals exact w_nil ⟨rfl,rfl⟩
 generalize (iEq k1 (Int.ofNat 3) && iEq k2 (Int.ofNat 3))=tx
 repeat' (first|refine w_seq ?_|refine w_reg ?_|refine w_e ?_|refine w_opk rfl rfl ?_)
 refine w_block ?_
 repeat' (first|refine w_seq ?_|refine w_reg ?_|refine w_e ?_|refine w_opk rfl rfl ?_)
 rw [o11]
 repeat' (first|refine w_reg ?_|refine w_e ?_|refine w_opk rfl rfl ?_|refine w_cond_f rfl ?_)
 rw [o12]
 repeat' (first|refine w_seq ?_|refine w_reg ?_|refine w_e ?_|refine w_opk rfl rfl ?_|refine w_cond_f rfl ?_)
 rw [o13]
 repeat' (first|refine w_seq ?_|refine w_reg ?_|refine w_e ?_|refine w_opk rfl rfl ?_|refine w_cond_f rfl ?_)
 rw [o14]
 repeat' (first|refine w_seq ?_|refine w_reg ?_|refine w_e ?_|refine w_opk rfl rfl ?_|refine w_cond_f rfl ?_)
 rw [o15]
 repeat' (first|refine w_reg ?_|refine w_e ?_|refine w_opk rfl rfl ?_|refine w_cond_f rfl ?_)
 rw [o16]
 repeat' (first|refine w_seq ?_|refine w_reg ?_|refine w_e ?_|refine w_opk rfl rfl ?_|refine w_cond_f rfl ?_)
 rw [o17]
 repeat' (first|refine w_seq ?_|refine w_reg ?_|refine w_e ?_|refine w_opk rfl rfl ?_|refine w_cond_f rfl ?_)
 rw [o18]
 repeat' (first|refine w_seq ?_|refine w_reg ?_|refine w_e ?_|refine w_opk rfl rfl ?_|refine w_cond_f rfl ?_|refine w_skip ?_)
 by_cases hk:k1=1∧k2=1
 ·rw [both_t (n:=1) hk]
  have e9:twoV o (.mk k1 na ta la) (.mk k2 nb tb lb)=(numV' (arithT o na nb).1,(arithT o na nb).2):=by
   unfold twoV
   rw [if_neg (by omega),if_neg (by omega),if_neg (by omega),if_neg (by omega),if_neg (by omega)]
   exact if_pos hk
  rw [e9]
  repeat' (first|refine w_seq ?_|refine w_reg ?_|refine w_rf rfl (by assumption) (by rfl) (by rfl) (by rfl) ?_|refine w_opk rfl rfl ?_|refine w_cond_f rfl ?_|refine w_skip ?_)
  refine w_callA [.int .u8 o,.int .i64 na,.int .i64 nb] rfl ((arith_ok hO.ml hO.ar ho (show Am.i64 na from by unfold Am.i64;have:=ra.1;have:=ra.2;have e:(Val.mk k1 na ta la).num=na:=rfl;omega) (show Am.i64 nb from by unfold Am.i64;have:=rb.1;have:=rb.2;have e:(Val.mk k2 nb tb lb).num=nb:=rfl;omega)).mono fun v' h4 ⟨e1,e2⟩=>?_)
  subst e1 e2
  repeat' (first|refine w_seq ?_|refine w_reg ?_|refine w_e ?_|refine w_opk rfl rfl ?_)
  refine w_callA [.int .i64 (arithT o na nb).1] rfl ((numberV_ok hO.nu).mono fun v' h5 ⟨e1,hE5⟩=>?_)
  subst e1
  repeat' (first|refine w_opk rfl rfl ?_)
  refine w_store rfl rfl (hR.ext0 hE5) rfl rfl (by decide) (by simp) fun h6 hR6 hE6 hn6=>?_
  replace hR6:Own h6 iR [.int .u8 1,.int .i64 (arithT o na nb).1,.str [],.nils]:=hR6
  repeat' (first|refine w_e ?_|refine w_opk rfl rfl ?_|refine w_ret ?_)
  exact w_rt (l:=[.agg [.int .u8 1,.int .i64 (arithT o na nb).1,.str [],.nils],.int .i64 (arithT o na nb).2]) (tail4 hR6 rfl rfl rfl) ⟨_,rfl,VaR.num 1 _,(E3.trans hE5).step hE6 fun jd hjd=>by simp at hjd;exact .inr (by omega)⟩
 ·rw [both_f (n:=1) hk]
  have e9:twoV o (.mk k1 na ta la) (.mk k2 nb tb lb)=(zeroV,1):=by
   unfold twoV
   rw [if_neg (by omega),if_neg (by omega),if_neg (by omega),if_neg (by omega),if_neg (by omega)]
   exact if_neg hk
  rw [e9]
  repeat' (first|refine w_seq ?_|refine w_reg ?_|refine w_cond_t rfl ?_)
  refine w_build [.int .u8 0,.int .i64 (.ofNat 0),.str [],.nils] rfl rfl ?_
  refine w_store rfl rfl hR rfl rfl (by decide) (by simp) fun h5 hR5 hE5 hn5=>?_
  replace hR5:Own h5 iR [.int .u8 0,.int .i64 (.ofNat 0),.str [],.nils]:=hR5
  repeat' (first|refine w_e ?_|refine w_opk rfl rfl ?_|refine w_ret ?_)
  exact w_rt (l:=[.agg [.int .u8 0,.int .i64 (.ofNat 0),.str [],.nils],.int .i64 (.ofNat 1)]) (tail4 hR5 rfl rfl rfl) ⟨_,rfl,VaR.num 0 0,E3.step hE5 fun jd hjd=>by simp at hjd;exact .inr (by omega)⟩
theorem two_eq (hO:OffTw O) {o:Int} {a b:Val} (ho:o=11∨o=12) (ka:OkW a) (kb:OkW b):TwoOk O o a b:=by
 intro Z h0 ca cb ha hb hz
 have sa:=ha.shape
 have sb:=hb.shape
 refine w_fn' (hO.tw _ _) rfl rfl (by simp only [c198,initV,nth] <;> rfl) ?_
 refine w_seq (w_reg (w_box rfl sa.1 sa.2 fun iA h1 hA hiA hE1=>?_))
 refine w_box rfl sb.1 sb.2 fun iB h2 hB hiB hE2=>?_
 refine w_alloc fun iR h3 hR hiR hE3=>?_
 have E3:=(hE1.trans hE2).trans hE3
 have n1:=hE1.1
 have n2:=hE2.1
 replace hA:Own h3 iA ca:=(hA.ext0 hE2).ext0 hE3
 replace hB:Own h3 iB cb:=hB.ext0 hE3
 have ha3:=ha.ext0 E3
 have hb3:=hb.ext0 E3
 refine w_opk rfl rfl ?_
 refine w_e ?_
 obtain ⟨k1,na,ta,la⟩:=a
 obtain ⟨k2,nb,tb,lb⟩:=b
 unfold VaR at ha hb
 obtain ⟨va,lca,rfl,ra1,va2⟩:=ha
 obtain ⟨vb,lcb,rfl,rb1,vb2⟩:=hb
 refine w_seq (w_regB (b:=iEq k1 (Int.ofNat 1) && iEq k2 (Int.ofNat 1)) ?_ (by simp only [setV] <;> rfl) ?_)
 ·repeat' (first|refine w_rf rfl (by assumption) (by rfl) (by rfl) (by rfl) ?_|refine w_opk rfl rfl ?_)
  generalize iEq k1 (Int.ofNat 1)=x
  cases x
  all_goals (repeat' (first|refine w_off rfl ?_|refine w_rfg rfl rfl (by assumption) (by rfl) (by rfl) (by rfl) (by rfl) ?_|refine w_on rfl ?_|refine w_opk rfl rfl ?_))
  all_goals exact w_nil ⟨rfl,rfl⟩
 refine w_seq (w_regB (b:=iEq k1 (Int.ofNat 3) && iEq k2 (Int.ofNat 3)) ?_ (by simp only [setV] <;> rfl) ?_)
 ·repeat' (first|refine w_rf rfl (by assumption) (by rfl) (by rfl) (by rfl) ?_|refine w_opk rfl rfl ?_)
  generalize iEq k1 (Int.ofNat 3)=x
  cases x
  all_goals (repeat' (first|refine w_off rfl ?_|refine w_rfg rfl rfl (by assumption) (by rfl) (by rfl) (by rfl) (by rfl) ?_|refine w_on rfl ?_|refine w_opk rfl rfl ?_))
  all_goals exact w_nil ⟨rfl,rfl⟩
 generalize (iEq k1 (Int.ofNat 3) && iEq k2 (Int.ofNat 3))=tx
 generalize (iEq k1 (Int.ofNat 1) && iEq k2 (Int.ofNat 1))=ix
 rcases ho with rfl | rfl
 all_goals (repeat' (first|refine w_seq ?_|refine w_reg ?_|refine w_e ?_|refine w_opk rfl rfl ?_))
 all_goals refine w_block ?_
 all_goals (repeat' (first|refine w_seq ?_|refine w_reg ?_|refine w_e ?_|refine w_opk rfl rfl ?_|refine w_cond_t rfl ?_|refine w_cond_f rfl ?_|refine w_skip ?_))
 all_goals
  refine w_loadA rfl (hA.at rfl) rfl ?_
  refine w_loadA rfl (hB.at rfl) rfl ?_
  refine w_callA [.agg [.int .u8 k1,.int .i64 na,.str ta,va],.agg [.int .u8 k2,.int .i64 nb,.str tb,vb]] rfl ((vSame_ok hO.toOffCmp ha3 hb3 ka kb).mono fun _ h4 ⟨e,hE4⟩=>?_)
  subst e
 ·have e9:twoV 11 (.mk k1 na ta la) (.mk k2 nb tb lb)=(truV (eqVb (.mk k1 na ta la) (.mk k2 nb tb lb)),0):=by unfold twoV;rw [if_pos rfl]
  rw [e9]
  generalize eqVb (.mk k1 na ta la) (.mk k2 nb tb lb)=t
  cases t
  all_goals (repeat' (first|refine w_opk rfl rfl ?_))
  all_goals
   refine w_callA [.bool _] rfl ((truth_ok hO.trt).mono fun v' h5 ⟨e1,hE5⟩=>?_)
   subst e1
  all_goals (skip)
  ·refine w_store rfl rfl ((hR.ext0 hE4).ext0 hE5) rfl rfl (by decide) (by simp) fun h6 hR6 hE6 hn6=>?_
   replace hR6:Own h6 iR [.int .u8 2,.int .i64 (.ofNat 0),.str [],.nils]:=hR6
   repeat' (first|refine w_e ?_|refine w_opk rfl rfl ?_|refine w_ret ?_)
   exact w_rt (l:=[.agg [.int .u8 2,.int .i64 (.ofNat 0),.str [],.nils],.int .i64 (.ofNat 0)]) (tail4 hR6 rfl rfl rfl) ⟨_,rfl,VaR.num 2 0,((E3.trans hE4).trans hE5).step hE6 fun jd hjd=>by simp at hjd;exact .inr (by omega)⟩
  ·refine w_store rfl rfl ((hR.ext0 hE4).ext0 hE5) rfl rfl (by decide) (by simp) fun h6 hR6 hE6 hn6=>?_
   replace hR6:Own h6 iR [.int .u8 2,.int .i64 (.ofNat 1),.str [],.nils]:=hR6
   repeat' (first|refine w_e ?_|refine w_opk rfl rfl ?_|refine w_ret ?_)
   exact w_rt (l:=[.agg [.int .u8 2,.int .i64 (.ofNat 1),.str [],.nils],.int .i64 (.ofNat 0)]) (tail4 hR6 rfl rfl rfl) ⟨_,rfl,VaR.num 2 1,((E3.trans hE4).trans hE5).step hE6 fun jd hjd=>by simp at hjd;exact .inr (by omega)⟩
 ·have e9:twoV 12 (.mk k1 na ta la) (.mk k2 nb tb lb)=(truV (!eqVb (.mk k1 na ta la) (.mk k2 nb tb lb)),0):=by unfold twoV;rw [if_neg (by decide),if_pos rfl]
  rw [e9]
  generalize eqVb (.mk k1 na ta la) (.mk k2 nb tb lb)=t
  cases t
  all_goals (repeat' (first|refine w_opk rfl rfl ?_))
  all_goals
   refine w_callA [.bool _] rfl ((truth_ok hO.trt).mono fun v' h5 ⟨e1,hE5⟩=>?_)
   subst e1
  all_goals (skip)
  ·refine w_store rfl rfl ((hR.ext0 hE4).ext0 hE5) rfl rfl (by decide) (by simp) fun h6 hR6 hE6 hn6=>?_
   replace hR6:Own h6 iR [.int .u8 2,.int .i64 (.ofNat 1),.str [],.nils]:=hR6
   repeat' (first|refine w_e ?_|refine w_opk rfl rfl ?_|refine w_ret ?_)
   exact w_rt (l:=[.agg [.int .u8 2,.int .i64 (.ofNat 1),.str [],.nils],.int .i64 (.ofNat 0)]) (tail4 hR6 rfl rfl rfl) ⟨_,rfl,VaR.num 2 1,((E3.trans hE4).trans hE5).step hE6 fun jd hjd=>by simp at hjd;exact .inr (by omega)⟩
  ·refine w_store rfl rfl ((hR.ext0 hE4).ext0 hE5) rfl rfl (by decide) (by simp) fun h6 hR6 hE6 hn6=>?_
   replace hR6:Own h6 iR [.int .u8 2,.int .i64 (.ofNat 0),.str [],.nils]:=hR6
   repeat' (first|refine w_e ?_|refine w_opk rfl rfl ?_|refine w_ret ?_)
   exact w_rt (l:=[.agg [.int .u8 2,.int .i64 (.ofNat 0),.str [],.nils],.int .i64 (.ofNat 0)]) (tail4 hR6 rfl rfl rfl) ⟨_,rfl,VaR.num 2 0,((E3.trans hE4).trans hE5).step hE6 fun jd hjd=>by simp at hjd;exact .inr (by omega)⟩
end AmT
namespace AmT
open Go Am
set_option maxRecDepth 100000
set_option maxHeartbeats 8000000
variable {O:CallF}
structure OffTx (O:CallF):Prop extends OffTw O,OffVR O where
 so:∀ a h,O 195 a h=none
 clv:∀ a h,O 56 a h=none
theorem tru_of {d e:Bool} (h:d=e):truV d=.mk 2 (Int.ofNat (if e=true then 1 else 0)) [] []:=by
 subst h
 unfold truV
 cases d <;> rfl
theorem two_ord (hO:OffTx O) {o:Int} {a b:Val} (ho:o=13∨o=14∨o=15∨o=16) (ka:OkW a) (kb:OkW b):TwoOk O o a b:=by
 intro Z h0 ca cb ha hb hz
 have sa:=ha.shape
 have sb:=hb.shape
 refine w_fn' (hO.tw _ _) rfl rfl (by simp only [c198,initV,nth] <;> rfl) ?_
 refine w_seq (w_reg (w_box rfl sa.1 sa.2 fun iA h1 hA hiA hE1=>?_))
 refine w_box rfl sb.1 sb.2 fun iB h2 hB hiB hE2=>?_
 refine w_alloc fun iR h3 hR hiR hE3=>?_
 have E3:=(hE1.trans hE2).trans hE3
 have n1:=hE1.1
 have n2:=hE2.1
 replace hA:Own h3 iA ca:=(hA.ext0 hE2).ext0 hE3
 replace hB:Own h3 iB cb:=hB.ext0 hE3
 have ha3:=ha.ext0 E3
 have hb3:=hb.ext0 E3
 refine w_opk rfl rfl ?_
 refine w_e ?_
 obtain ⟨k1,na,ta,la⟩:=a
 obtain ⟨k2,nb,tb,lb⟩:=b
 unfold VaR at ha hb
 obtain ⟨va,lca,rfl,ra1,va2⟩:=ha
 obtain ⟨vb,lcb,rfl,rb1,vb2⟩:=hb
 refine w_seq (w_regB (b:=iEq k1 (Int.ofNat 1) && iEq k2 (Int.ofNat 1)) ?_ (by simp only [setV] <;> rfl) ?_)
 ·repeat' (first|refine w_rf rfl (by assumption) (by rfl) (by rfl) (by rfl) ?_|refine w_opk rfl rfl ?_)
  generalize iEq k1 (Int.ofNat 1)=x
  cases x
  all_goals (repeat' (first|refine w_off rfl ?_|refine w_rfg rfl rfl (by assumption) (by rfl) (by rfl) (by rfl) (by rfl) ?_|refine w_on rfl ?_|refine w_opk rfl rfl ?_))
  all_goals exact w_nil ⟨rfl,rfl⟩
 refine w_seq (w_regB (b:=iEq k1 (Int.ofNat 3) && iEq k2 (Int.ofNat 3)) ?_ (by simp only [setV] <;> rfl) ?_)
 ·repeat' (first|refine w_rf rfl (by assumption) (by rfl) (by rfl) (by rfl) ?_|refine w_opk rfl rfl ?_)
  generalize iEq k1 (Int.ofNat 3)=x
  cases x
  all_goals (repeat' (first|refine w_off rfl ?_|refine w_rfg rfl rfl (by assumption) (by rfl) (by rfl) (by rfl) (by rfl) ?_|refine w_on rfl ?_|refine w_opk rfl rfl ?_))
  all_goals exact w_nil ⟨rfl,rfl⟩
 by_cases hk:(k1=1∧k2=1)∨(k1=3∧k2=3)
 ·have e9:twoV o (.mk k1 na ta la) (.mk k2 nb tb lb)=(truV (if o=13 then decide (ordV (.mk k1 na ta la) (.mk k2 nb tb lb)<0) else if o=14 then decide (ordV (.mk k1 na ta la) (.mk k2 nb tb lb)≤0) else if o=15 then decide (0<ordV (.mk k1 na ta la) (.mk k2 nb tb lb)) else decide (0≤ordV (.mk k1 na ta la) (.mk k2 nb tb lb))),0):=by
   unfold twoV
   rw [if_neg (by omega),if_neg (by omega),if_pos (by omega)]
   exact if_pos hk
  rw [e9]
  have hkk:k1=k2:=by omega
  have hkv:k1=1∨k1=3:=by omega
  obtain ⟨ix,tx,e1,e2,e3⟩:∃ ix tx,(iEq k1 (Int.ofNat 1) && iEq k2 (Int.ofNat 1))=ix∧(iEq k1 (Int.ofNat 3) && iEq k2 (Int.ofNat 3))=tx∧(ix=true∧tx=false∨ix=false∧tx=true):=by
   rcases hk with h | h
   ·exact ⟨true,false,both_t (n:=1) h,both_f (n:=3) (by omega),.inl ⟨rfl,rfl⟩⟩
   ·exact ⟨false,true,both_f (n:=1) (by omega),both_t (n:=3) h,.inr ⟨rfl,rfl⟩⟩
  rw [e1,e2]
  clear e1 e2
  rcases e3 with ⟨rfl,rfl⟩ | ⟨rfl,rfl⟩
  all_goals rcases ho with rfl | rfl | rfl | rfl
  all_goals (repeat' (first|refine w_seq ?_|refine w_reg ?_|refine w_e ?_|refine w_opk rfl rfl ?_))
  all_goals refine w_block ?_
  all_goals (repeat' (first|refine w_seq ?_|refine w_reg ?_|refine w_e ?_|refine w_off rfl ?_|refine w_on rfl ?_|refine w_opk rfl rfl ?_|refine w_cond_t rfl ?_|refine w_cond_f rfl ?_|refine w_skip ?_))
  all_goals
   refine w_loadA rfl (hA.at rfl) rfl ?_
   refine w_loadA rfl (hB.at rfl) rfl ?_
   refine w_callA [.agg [.int .u8 k1,.int .i64 na,.str ta,va],.agg [.int .u8 k2,.int .i64 nb,.str tb,vb]] rfl ((vCompare_ok hO.toOffCmp ha3 hb3 ka kb).mono fun _ h4 ⟨⟨x,e,_,ex⟩,hE4⟩=>?_)
   subst e
   have ex:=ex hkk hkv
   subst ex
   generalize ordV (.mk k1 na ta la) (.mk k2 nb tb lb)=x
  all_goals (repeat' (first|refine w_seq ?_|refine w_reg ?_|refine w_e ?_|refine w_opk rfl rfl ?_))
  all_goals refine w_mkI .u8 fun iM h5 hM5 hiM hE5=>?_
  all_goals (repeat' (first|refine w_opk rfl rfl ?_))
  all_goals refine w_build [_] rfl rfl ?_
  all_goals (skip)
  all_goals refine w_mputI rfl rfl rfl hM5 fun h6 hM6 hE6 n6=>?_
  all_goals (repeat' (first|refine w_opk rfl rfl ?_))
  all_goals refine w_build [_] rfl rfl ?_
  all_goals (skip)
  all_goals refine w_mputI rfl rfl rfl hM6 fun h7 hM7 hE7 n7=>?_
  all_goals (repeat' (first|refine w_opk rfl rfl ?_))
  all_goals refine w_build [_] rfl rfl ?_
  all_goals (skip)
  all_goals refine w_mputI rfl rfl rfl hM7 fun h8 hM8 hE8 n8=>?_
  all_goals (repeat' (first|refine w_opk rfl rfl ?_))
  all_goals refine w_build [_] rfl rfl ?_
  all_goals (skip)
  all_goals refine w_mputI rfl rfl rfl hM8 fun h9 hM9 hE9 n9=>?_
  all_goals
   have EM:Ext h4 h9:=hE5.step (((hE6.trans hE7).trans hE8).trans hE9) fun j hj=>by simp at hj;exact .inr (by omega)
  all_goals (repeat' (first|refine w_seq ?_|refine w_reg ?_|refine w_e ?_|refine w_opk rfl rfl ?_))
  all_goals refine w_lookI rfl rfl hM9 ?_
  all_goals (repeat' (first|refine w_opk rfl rfl ?_))
  all_goals
   refine w_call rfl ((truth_ok hO.trt).mono fun v' h10 ⟨e1,hE10⟩=>?_)
   subst e1
  all_goals (skip)
  all_goals
   have hR9:=((hR.ext0 hE4).ext0 EM).ext0 hE10
   refine w_store rfl rfl hR9 rfl rfl (by decide) (by simp) fun h11 hR11 hE11 hn11=>?_
   have E11:=(((E3.trans hE4).trans EM).trans hE10).step hE11 fun jd hjd=>by simp at hjd;exact .inr (by omega)
  all_goals (repeat' (first|refine w_e ?_|refine w_opk rfl rfl ?_|refine w_ret ?_))
  all_goals first
   | (rw [if_pos rfl,tru_of (show decide (x<0)=iLt x (Int.ofNat 0) from (iLt_eq _ _).symm)];exact w_rt (l:=[.agg [.int .u8 2,.int .i64 (.ofNat (if iLt x (Int.ofNat 0)=true then 1 else 0)),.str [],.nils],.int .i64 (.ofNat 0)]) (tail4 (show Own h11 iR [.int .u8 2,.int .i64 (.ofNat (if iLt x (Int.ofNat 0)=true then 1 else 0)),.str [],.nils] from hR11) rfl rfl rfl) ⟨_,rfl,VaR.num 2 _,E11⟩)
   | (rw [if_neg (by decide),if_pos rfl,tru_of (show decide (x≤0)=iNot (iLt (Int.ofNat 0) x) from by rw [iLt_eq];show _ = !(decide ((0:Int)<x));by_cases h:x≤0 <;> simp [h] <;> omega)];exact w_rt (l:=[.agg [.int .u8 2,.int .i64 (.ofNat (if iNot (iLt (Int.ofNat 0) x)=true then 1 else 0)),.str [],.nils],.int .i64 (.ofNat 0)]) (tail4 (show Own h11 iR [.int .u8 2,.int .i64 (.ofNat (if iNot (iLt (Int.ofNat 0) x)=true then 1 else 0)),.str [],.nils] from hR11) rfl rfl rfl) ⟨_,rfl,VaR.num 2 _,E11⟩)
   | (rw [if_neg (by decide),if_neg (by decide),if_pos rfl,tru_of (show decide (0<x)=iLt (Int.ofNat 0) x from (iLt_eq _ _).symm)];exact w_rt (l:=[.agg [.int .u8 2,.int .i64 (.ofNat (if iLt (Int.ofNat 0) x=true then 1 else 0)),.str [],.nils],.int .i64 (.ofNat 0)]) (tail4 (show Own h11 iR [.int .u8 2,.int .i64 (.ofNat (if iLt (Int.ofNat 0) x=true then 1 else 0)),.str [],.nils] from hR11) rfl rfl rfl) ⟨_,rfl,VaR.num 2 _,E11⟩)
   | (rw [if_neg (by decide),if_neg (by decide),if_neg (by decide),tru_of (show decide (0≤x)=iNot (iLt x (Int.ofNat 0)) from by rw [iLt_eq];show _ = !(decide (x<(0:Int)));by_cases h:0≤x <;> simp [h] <;> omega)];exact w_rt (l:=[.agg [.int .u8 2,.int .i64 (.ofNat (if iNot (iLt x (Int.ofNat 0))=true then 1 else 0)),.str [],.nils],.int .i64 (.ofNat 0)]) (tail4 (show Own h11 iR [.int .u8 2,.int .i64 (.ofNat (if iNot (iLt x (Int.ofNat 0))=true then 1 else 0)),.str [],.nils] from hR11) rfl rfl rfl) ⟨_,rfl,VaR.num 2 _,E11⟩)
 ·have e9:twoV o (.mk k1 na ta la) (.mk k2 nb tb lb)=(zeroV,1):=by
   unfold twoV
   rw [if_neg (by omega),if_neg (by omega),if_pos (by omega)]
   exact if_neg hk
  rw [e9,both_f (n:=1) fun h=>hk (.inl h),both_f (n:=3) fun h=>hk (.inr h)]
  rcases ho with rfl | rfl | rfl | rfl
  all_goals (repeat' (first|refine w_seq ?_|refine w_reg ?_|refine w_e ?_|refine w_opk rfl rfl ?_))
  all_goals refine w_block ?_
  all_goals (repeat' (first|refine w_seq ?_|refine w_reg ?_|refine w_e ?_|refine w_on rfl ?_|refine w_opk rfl rfl ?_|refine w_cond_t rfl ?_|refine w_cond_f rfl ?_|refine w_skip ?_))
  all_goals
   refine w_build [.int .u8 0,.int .i64 (.ofNat 0),.str [],.nils] rfl rfl ?_
   refine w_store rfl rfl hR rfl rfl (by decide) (by simp) fun h5 hR5 hE5 hn5=>?_
   replace hR5:Own h5 iR [.int .u8 0,.int .i64 (.ofNat 0),.str [],.nils]:=hR5
  all_goals (repeat' (first|refine w_e ?_|refine w_opk rfl rfl ?_|refine w_ret ?_))
  all_goals exact w_rt (l:=[.agg [.int .u8 0,.int .i64 (.ofNat 0),.str [],.nils],.int .i64 (.ofNat 1)]) (tail4 hR5 rfl rfl rfl) ⟨_,rfl,VaR.num 0 0,E3.step hE5 fun jd hjd=>by simp at hjd;exact .inr (by omega)⟩
theorem two_at (hO:OffTx O) {a b:Val} : TwoOk O 18 a b:=by
 intro Z h0 ca cb ha hb hz
 have sa:=ha.shape
 have sb:=hb.shape
 refine w_fn' (hO.tw _ _) rfl rfl (by simp only [c198,initV,nth] <;> rfl) ?_
 refine w_seq (w_reg (w_box rfl sa.1 sa.2 fun iA h1 hA hiA hE1=>?_))
 refine w_box rfl sb.1 sb.2 fun iB h2 hB hiB hE2=>?_
 refine w_alloc fun iR h3 hR hiR hE3=>?_
 have E3:=(hE1.trans hE2).trans hE3
 have n1:=hE1.1
 have n2:=hE2.1
 replace hA:Own h3 iA ca:=(hA.ext0 hE2).ext0 hE3
 replace hB:Own h3 iB cb:=hB.ext0 hE3
 have ha3:=ha.ext0 E3
 have hb3:=hb.ext0 E3
 refine w_opk rfl rfl ?_
 refine w_e ?_
 obtain ⟨k1,na,ta,la⟩:=a
 obtain ⟨k2,nb,tb,lb⟩:=b
 unfold VaR at ha hb
 obtain ⟨va,lca,rfl,ra1,va2⟩:=ha
 obtain ⟨vb,lcb,rfl,rb1,vb2⟩:=hb
 refine w_seq (w_regB (b:=iEq k1 (Int.ofNat 1) && iEq k2 (Int.ofNat 1)) ?_ (by simp only [setV] <;> rfl) ?_)
 ·repeat' (first|refine w_rf rfl (by assumption) (by rfl) (by rfl) (by rfl) ?_|refine w_opk rfl rfl ?_)
  generalize iEq k1 (Int.ofNat 1)=x
  cases x
  all_goals (repeat' (first|refine w_off rfl ?_|refine w_rfg rfl rfl (by assumption) (by rfl) (by rfl) (by rfl) (by rfl) ?_|refine w_on rfl ?_|refine w_opk rfl rfl ?_))
  all_goals exact w_nil ⟨rfl,rfl⟩
 refine w_seq (w_regB (b:=iEq k1 (Int.ofNat 3) && iEq k2 (Int.ofNat 3)) ?_ (by simp only [setV] <;> rfl) ?_)
 ·repeat' (first|refine w_rf rfl (by assumption) (by rfl) (by rfl) (by rfl) ?_|refine w_opk rfl rfl ?_)
  generalize iEq k1 (Int.ofNat 3)=x
  cases x
  all_goals (repeat' (first|refine w_off rfl ?_|refine w_rfg rfl rfl (by assumption) (by rfl) (by rfl) (by rfl) (by rfl) ?_|refine w_on rfl ?_|refine w_opk rfl rfl ?_))
  all_goals exact w_nil ⟨rfl,rfl⟩
 generalize (iEq k1 (Int.ofNat 3) && iEq k2 (Int.ofNat 3))=tx
 generalize (iEq k1 (Int.ofNat 1) && iEq k2 (Int.ofNat 1))=ix
 have e9:twoV 18 (.mk k1 na ta la) (.mk k2 nb tb lb)=atV (.mk k1 na ta la) (.mk k2 nb tb lb):=by
  unfold twoV
  rw [if_neg (by decide),if_neg (by decide),if_neg (by decide),if_neg (by decide),if_pos rfl]
 rw [e9]
 repeat' (first|refine w_seq ?_|refine w_reg ?_|refine w_e ?_|refine w_opk rfl rfl ?_)
 refine w_block ?_
 repeat' (first|refine w_seq ?_|refine w_reg ?_|refine w_e ?_|refine w_opk rfl rfl ?_|refine w_cond_t rfl ?_|refine w_cond_f rfl ?_)
 refine w_loadA rfl (hA.at rfl) rfl ?_
 refine w_loadA rfl (hB.at rfl) rfl ?_
 refine w_callA [.agg [.int .u8 k1,.int .i64 na,.str ta,va],.agg [.int .u8 k2,.int .i64 nb,.str tb,vb]] rfl ((at_ok hO.toOffAt ha3 hb3 (fun i hi=>by have:=hz i hi;have:=E3.1;omega)).mono fun _ h4 ⟨cv,e,tv,hE4⟩=>?_)
 subst e
 have sv:=tv.shape
 repeat' (first|refine w_opk rfl rfl ?_)
 refine w_store rfl rfl (hR.ext0 hE4) (show (V.agg cv).cells.length=4 from sv.1) sv.2 (by decide) (by simp) fun h5 hR5 hE5 hn5=>?_
 replace hR5:Own h5 iR cv:=by
  have:=hR5
  rw [show (V.agg cv).cells=cv from rfl,splice4 sv.1 rfl] at this
  exact this
 repeat' (first|refine w_e ?_|refine w_opk rfl rfl ?_|refine w_ret ?_)
 exact w_rt (l:=[.agg cv,.int .i64 _]) (tail4 hR5 sv.1 rfl rfl) ⟨_,rfl,tv.ext hE5 (fun i hi hm=>by simp at hm;rcases hi with hi | hi <;> first | (have:=hz i hi;have:=E3.1;omega) | (have:=hR.1;omega)) fun i hi _=>by rcases hi with hi | hi;exact .inl hi;exact .inr (by have:=E3.1;omega),(E3.trans hE4).step hE5 fun jd hjd=>by simp at hjd;exact .inr (by omega)⟩
theorem two_cat (hO:OffTx O) {a b:Val} (ka:OkW a) (kb:OkW b):TwoOk O 17 a b:=by
 intro Z h0 ca cb ha hb hz
 have sa:=ha.shape
 have sb:=hb.shape
 refine w_fn' (hO.tw _ _) rfl rfl (by simp only [c198,initV,nth] <;> rfl) ?_
 refine w_seq (w_reg (w_box rfl sa.1 sa.2 fun iA h1 hA hiA hE1=>?_))
 refine w_box rfl sb.1 sb.2 fun iB h2 hB hiB hE2=>?_
 refine w_alloc fun iR h3 hR hiR hE3=>?_
 have E3:=(hE1.trans hE2).trans hE3
 have n1:=hE1.1
 have n2:=hE2.1
 have hRl:=hR.1
 replace hA:Own h3 iA ca:=(hA.ext0 hE2).ext0 hE3
 replace hB:Own h3 iB cb:=hB.ext0 hE3
 have ha3:=ha.ext0 E3
 have hb3:=hb.ext0 E3
 refine w_opk rfl rfl ?_
 refine w_e ?_
 obtain ⟨k1,na,ta,la⟩:=a
 obtain ⟨k2,nb,tb,lb⟩:=b
 unfold VaR at ha3 hb3
 obtain ⟨va,lca,rfl,ra1,va2⟩:=ha3
 obtain ⟨vb,lcb,rfl,rb1,vb2⟩:=hb3
 refine w_seq (w_regB (b:=iEq k1 (Int.ofNat 1) && iEq k2 (Int.ofNat 1)) ?_ (by simp only [setV] <;> rfl) ?_)
 ·repeat' (first|refine w_rf rfl (by assumption) (by rfl) (by rfl) (by rfl) ?_|refine w_opk rfl rfl ?_)
  generalize iEq k1 (Int.ofNat 1)=x
  cases x
  all_goals (repeat' (first|refine w_off rfl ?_|refine w_rfg rfl rfl (by assumption) (by rfl) (by rfl) (by rfl) (by rfl) ?_|refine w_on rfl ?_|refine w_opk rfl rfl ?_))
  all_goals exact w_nil ⟨rfl,rfl⟩
 refine w_seq (w_regB (b:=iEq k1 (Int.ofNat 3) && iEq k2 (Int.ofNat 3)) ?_ (by simp only [setV] <;> rfl) ?_)
 ·repeat' (first|refine w_rf rfl (by assumption) (by rfl) (by rfl) (by rfl) ?_|refine w_opk rfl rfl ?_)
  generalize iEq k1 (Int.ofNat 3)=x
  cases x
  all_goals (repeat' (first|refine w_off rfl ?_|refine w_rfg rfl rfl (by assumption) (by rfl) (by rfl) (by rfl) (by rfl) ?_|refine w_on rfl ?_|refine w_opk rfl rfl ?_))
  all_goals exact w_nil ⟨rfl,rfl⟩
 generalize (iEq k1 (Int.ofNat 1) && iEq k2 (Int.ofNat 1))=ix
 have rga:=ka.rng
 have rgb:=kb.rng
 unfold RngV at rga rgb
 by_cases g3:k1=3∧k2=3
 ·have lta:ta.length≤4096:=by
   have e:lenVal (.mk k1 na ta la)=some ta.length:=by
    show (if k1=3 then some ta.length else if k1=4 then some la.length else none)=_
    rw [if_pos g3.1]
   exact ka.len e
  have ltb:tb.length≤4096:=by
   have e:lenVal (.mk k2 nb tb lb)=some tb.length:=by
    show (if k2=3 then some tb.length else if k2=4 then some lb.length else none)=_
    rw [if_pos g3.2]
   exact kb.len e
  rw [both_t (n:=3) g3]
  have e9:twoV 17 (.mk k1 na ta la) (.mk k2 nb tb lb)=soundV (.mk 3 0 (ta++tb) []):=by
   unfold twoV
   rw [if_neg (by decide),if_neg (by decide),if_neg (by decide),if_pos rfl]
   exact if_pos g3
  rw [e9]
  repeat' (first|refine w_seq ?_|refine w_reg ?_|refine w_e ?_|refine w_opk rfl rfl ?_)
  refine w_block ?_
  repeat' (first|refine w_seq ?_|refine w_reg ?_|refine w_e ?_|refine w_opk rfl rfl ?_|refine w_cond_t rfl ?_|refine w_cond_f rfl ?_)
  refine w_block ?_
  repeat' (first|refine w_seq ?_|refine w_reg ?_|refine w_e ?_|refine w_rf rfl (by assumption) (by rfl) (by rfl) (by rfl) ?_|refine w_opk rfl rfl ?_|refine w_cond_t rfl ?_)
  refine w_catS rfl rfl (by omega) ?_
  skip
  refine w_build [.int .u8 3,.int .i64 (.ofNat 0),.str (ta++tb),.nils] rfl rfl ?_
  refine w_callA [.agg [.int .u8 3,.int .i64 (.ofNat 0),.str (ta++tb),.nils]] rfl ((sound_ok hO.so hO.toOffVR (Z:=fun _=>False) (a:=.mk 3 0 (ta++tb) []) (by unfold VaR;exact ⟨.nils,[],rfl,⟨RS.nils _ _,by simp [slIds]⟩,VasR.nil _ _⟩) (fun i hi=>hi.elim) (by unfold RngV;exact ⟨by decide,by decide,by simp,by unfold RngVl;trivial⟩)).mono fun _ h4 ⟨cv,e,tv,hE4⟩=>?_)
  subst e
  have sv:=tv.shape
  repeat' (first|refine w_opk rfl rfl ?_)
  refine w_store rfl rfl (hR.ext0 hE4) (show (V.agg cv).cells.length=4 from sv.1) sv.2 (by decide) (by simp) fun h5 hR5 hE5 hn5=>?_
  replace hR5:Own h5 iR cv:=by
   have:=hR5
   rw [show (V.agg cv).cells=cv from rfl,splice4 sv.1 rfl] at this
   exact this
  repeat' (first|refine w_e ?_|refine w_opk rfl rfl ?_|refine w_ret ?_)
  exact w_rt (l:=[.agg cv,.int .i64 _]) (tail4 hR5 sv.1 rfl rfl) ⟨_,rfl,tv.ext hE5 (fun i hi hm=>by simp at hm;rcases hi with hi | hi;exact hi.elim;omega) fun i hi _=>by rcases hi with hi | hi;exact hi.elim;exact .inr (by have:=E3.1;omega),(E3.trans hE4).step hE5 fun jd hjd=>by simp at hjd;exact .inr (by omega)⟩
 ·rw [both_f (n:=3) g3]
  repeat' (first|refine w_seq ?_|refine w_reg ?_|refine w_e ?_|refine w_opk rfl rfl ?_)
  refine w_block ?_
  repeat' (first|refine w_seq ?_|refine w_reg ?_|refine w_e ?_|refine w_opk rfl rfl ?_|refine w_cond_t rfl ?_|refine w_cond_f rfl ?_)
  refine w_block ?_
  repeat' (first|refine w_seq ?_|refine w_reg ?_|refine w_e ?_|refine w_rf rfl (by assumption) (by rfl) (by rfl) (by rfl) ?_|refine w_opk rfl rfl ?_|refine w_cond_f rfl ?_)
  by_cases h4:k1=4∧k2=4
  ·rw [iEq_t (n:=4) h4.1]
   repeat' (first|refine w_e ?_|refine w_rfg rfl rfl (by assumption) (by rfl) (by rfl) (by rfl) (by rfl) ?_|refine w_on rfl ?_|refine w_opk rfl rfl ?_)
   rw [iEq_t (n:=4) h4.2]
   have e9:twoV 17 (.mk k1 na ta la) (.mk k2 nb tb lb)=soundV (.mk 4 0 [] (la++lb)):=by
    unfold twoV
    rw [if_neg (by decide),if_neg (by decide),if_neg (by decide),if_pos rfl]
    show (if k1=3∧k2=3 then _ else if k1=4∧k2=4 then _ else _)=_
    rw [if_neg g3,if_pos h4]
    rfl
   rw [e9]
   have lta:la.length≤4096:=by
    have e:lenVal (.mk k1 na ta la)=some la.length:=by
     show (if k1=3 then some ta.length else if k1=4 then some la.length else none)=_
     rw [if_neg (by omega),if_pos h4.1]
    exact ka.len e
   have ltb:lb.length≤4096:=by
    have e:lenVal (.mk k2 nb tb lb)=some lb.length:=by
     show (if k2=3 then some tb.length else if k2=4 then some lb.length else none)=_
     rw [if_neg (by omega),if_pos h4.2]
    exact kb.len e
   have lla:=va2.len
   have llb:=vb2.len
   repeat' (first|refine w_seq ?_|refine w_reg ?_|refine w_rf rfl (by assumption) (by rfl) (by rfl) (by rfl) ?_|refine w_cond_t rfl ?_)
   refine w_callA [va] rfl ((cloneVal_ok hO.clv ra1.1 (by omega)).mono fun w h4' ⟨hw,hE4,nw⟩=>?_)
   have hA4:=hA.ext0 hE4
   have ho1:=hw.rs.one
   skip
   refine w_chk1 rfl rfl ((hB.ext0 hE4).at rfl |>.fadr (d:=3) (by simp)) (V.beq_refl _) ?_
   refine w_app rfl rfl hw (rb1.1.ext0 hE4) (by omega) fun w2 h5 hw2 hf2=>?_
   have hE45:Ext h3 h5:=hE4.step hf2.1 fun j hj=>.inr (nw j hj)
   have ho2:=hw2.rs.one
   skip
   refine w_build [.int .u8 4,.int .i64 (.ofNat 0),.str [],w2] rfl (by simp only [fillP,V.cells1 ho2,allOne,ho2];rfl) ?_
   have hz2:∀ j∈slIds w2,h3.n≤j∧j<h5.n:=fun j hj=>⟨by
    rcases hf2.2 j hj with e | e
    ·exact nw j e
    ·have:=hE4.1;omega,hw2.rs.lt j hj⟩
   have tv0:VaR (fun i=>(Z i∨h3.n≤i)∧i<h5.n) h5 (.mk 4 0 [] (la++lb)) [.int .u8 4,.int .i64 (.ofNat 0),.str [],w2]:=by
    unfold VaR
    refine ⟨w2,lca++lcb,rfl,⟨hw2.rs,fun j hj=>⟨.inr (hz2 j hj).1,(hz2 j hj).2⟩⟩,?_⟩
    have q1:VasR (fun i=>(Z i∨h3.n≤i)∧i<h5.n) h5 la lca:=va2.ext hE45 (S:=[]) (by simp) fun j hj hl=>⟨.inl hj,by have:=hE45.1;omega⟩
    have q2:VasR (fun i=>(Z i∨h3.n≤i)∧i<h5.n) h5 lb lcb:=vb2.ext hE45 (S:=[]) (by simp) fun j hj hl=>⟨.inl hj,by have:=hE45.1;omega⟩
    exact q1.append q2
   refine w_callA [.agg [.int .u8 4,.int .i64 (.ofNat 0),.str [],w2]] rfl ((sound_ok hO.so hO.toOffVR tv0 (fun i hi=>hi.2) (by unfold RngV;exact ⟨by decide,by decide,by simp;omega,RngVl.of fun x hx=>by
     rcases List.mem_append.1 hx with hx | hx
     ·exact rga.2.2.2.mem x hx
     ·exact rgb.2.2.2.mem x hx⟩)).mono fun _ h6 ⟨cv,e,tv,hE6⟩=>?_)
   subst e
   have sv:=tv.shape
   repeat' (first|refine w_opk rfl rfl ?_)
   refine w_store rfl rfl ((hR.ext0 hE45).ext0 hE6) (show (V.agg cv).cells.length=4 from sv.1) sv.2 (by decide) (by simp) fun h7 hR7 hE7 hn7=>?_
   replace hR7:Own h7 iR cv:=by
    have:=hR7
    rw [show (V.agg cv).cells=cv from rfl,splice4 sv.1 rfl] at this
    exact this
   repeat' (first|refine w_e ?_|refine w_opk rfl rfl ?_|refine w_ret ?_)
   exact w_rt (l:=[.agg cv,.int .i64 _]) (tail4 hR7 sv.1 rfl rfl) ⟨_,rfl,tv.ext hE7 (fun i hi hm=>by
     simp at hm
     rcases hi with ⟨hi | hi,_⟩ | hi
     ·have:=hz i hi;omega
     ·omega
     ·have:=hE45.1;omega) fun i hi _=>by
     rcases hi with ⟨hi | hi,_⟩ | hi
     ·exact .inl hi
     ·exact .inr (by have:=E3.1;omega)
     ·exact .inr (by have:=E3.1;have:=hE45.1;omega),((E3.trans hE45).trans hE6).step hE7 fun jd hjd=>by simp at hjd;exact .inr (by omega)⟩
  ·have e9:twoV 17 (.mk k1 na ta la) (.mk k2 nb tb lb)=(zeroV,1):=by
    unfold twoV
    rw [if_neg (by decide),if_neg (by decide),if_neg (by decide),if_pos rfl]
    show (if k1=3∧k2=3 then _ else if k1=4∧k2=4 then _ else _)=_
    rw [if_neg g3,if_neg h4]
   rw [e9]
   by_cases q:k1=4
   ·rw [iEq_t (n:=4) q]
    repeat' (first|refine w_e ?_|refine w_rfg rfl rfl (by assumption) (by rfl) (by rfl) (by rfl) (by rfl) ?_|refine w_on rfl ?_|refine w_opk rfl rfl ?_)
    rw [iEq_f (n:=4) fun q2=>h4 ⟨q,q2⟩]
    repeat' (first|refine w_seq ?_|refine w_reg ?_|refine w_cond_f rfl ?_|refine w_skip ?_)
    refine w_build [.int .u8 0,.int .i64 (.ofNat 0),.str [],.nils] rfl rfl ?_
    refine w_store rfl rfl hR rfl rfl (by decide) (by simp) fun h5 hR5 hE5 hn5=>?_
    replace hR5:Own h5 iR [.int .u8 0,.int .i64 (.ofNat 0),.str [],.nils]:=hR5
    repeat' (first|refine w_e ?_|refine w_opk rfl rfl ?_|refine w_ret ?_)
    exact w_rt (l:=[.agg [.int .u8 0,.int .i64 (.ofNat 0),.str [],.nils],.int .i64 (.ofNat 1)]) (tail4 hR5 rfl rfl rfl) ⟨_,rfl,VaR.num 0 0,E3.step hE5 fun jd hjd=>by simp at hjd;exact .inr (by omega)⟩
   ·rw [iEq_f (n:=4) q]
    repeat' (first|refine w_seq ?_|refine w_reg ?_|refine w_e ?_|refine w_off rfl ?_|refine w_opk rfl rfl ?_|refine w_cond_f rfl ?_|refine w_skip ?_)
    refine w_build [.int .u8 0,.int .i64 (.ofNat 0),.str [],.nils] rfl rfl ?_
    refine w_store rfl rfl hR rfl rfl (by decide) (by simp) fun h5 hR5 hE5 hn5=>?_
    replace hR5:Own h5 iR [.int .u8 0,.int .i64 (.ofNat 0),.str [],.nils]:=hR5
    repeat' (first|refine w_e ?_|refine w_opk rfl rfl ?_|refine w_ret ?_)
    exact w_rt (l:=[.agg [.int .u8 0,.int .i64 (.ofNat 0),.str [],.nils],.int .i64 (.ofNat 1)]) (tail4 hR5 rfl rfl rfl) ⟨_,rfl,VaR.num 0 0,E3.step hE5 fun jd hjd=>by simp at hjd;exact .inr (by omega)⟩
theorem two_all (hO:OffTx O) {o:Int} {a b:Val} (ho:o=4∨o=5∨o=6∨o=7∨o=8∨o=11∨o=12∨o=13∨o=14∨o=15∨o=16∨o=17∨o=18) (ka:OkW a) (kb:OkW b):TwoOk O o a b:=by
 by_cases h1:4≤o∧o≤8
 ·exact two_arith hO.toOffTw h1 ka kb
 by_cases h2:o=11∨o=12
 ·exact two_eq hO.toOffTw h2 ka kb
 by_cases h3:o=13∨o=14∨o=15∨o=16
 ·exact two_ord hO h3 ka kb
 by_cases h4:o=17
 ·subst h4;exact two_cat hO ka kb
 ·obtain rfl:o=18:=by omega
  exact two_at hO
end AmT
namespace AmT
open Go Am
set_option maxRecDepth 100000
set_option maxHeartbeats 4000000
variable {O:CallF}
structure OffIt (O:CallF):Prop where
 on:OffOn O
 ac:OffAc O
 tx:OffTx O
 fr:∀ a h,O 59 a h=none
 st:∀ a h,O 62 a h=none
theorem ok_headD {l:List Val} {n:Nat} (h:∀ x∈l,OkW x) (hl:l.length=n) (hn:0<n) (d:Val):OkW (l.headD d):=h _ (headD_mem hl hn d)
theorem do_all (hO:OffIt O) {hb:Heap} {x:Nat} {M:ModA} {T:Trn} {fs:List Frm} {f:Frm} {F:FnA} {i:InsA} (hM:ModOk M) (hT:T.frames=fs++[f]) (hfl:fs.length<50) (hB:FrmB M f F) (hi:InsOk M F (isBody M f.fn) i) (hbd:BdOk M T.role (T.frames.map fun f=>f.fn)) (nx:I64 T.next) (ef:T.effs.length<1000000) (hg:∀ g∈fs,g.stack.length≤200) :
  DoOk O hb x M T fs i (doT M T fs f i):=by
 intro h L c m hp
 obtain ⟨op,a,b⟩:=i
 obtain ⟨o1,o2,a0,al,b0,b1,i22,i33,iend⟩:=hi
 dsimp only at o1 o2 a0 al b0 b1 i22 i33 iend
 obtain ⟨k,rfl⟩:∃ k:Nat,a=Int.ofNat k:=⟨a.toNat,(Int.toNat_of_nonneg a0).symm⟩
 have hf:Fair T f:=⟨nx,by omega,hB.st⟩
 have hw:withF T fs f=T:=by unfold withF;rw [← hT]
 have hvl:=hB.vl
 have hFk:=hM.fs _ _ hB.hF
 have hst:=hB.st
 by_cases g:op=4∨op=5∨op=6∨op=7∨op=8∨op=11∨op=12∨op=13∨op=14∨op=15∨op=16∨op=17∨op=18
 ·have e:doT M T fs f ⟨op,Int.ofNat k,b⟩=(if f.stack.length<2 then trapT (withF T fs f) 9 else toldT T fs (cutF f 2) (twoV op ((offF f 2).headD zeroV) (((offF f 2).drop 1).headD zeroV))):=by
   rcases g with rfl | rfl | rfl | rfl | rfl | rfl | rfl | rfl | rfl | rfl | rfl | rfl | rfl <;> rfl
  rw [e,hw]
  refine dtwo_ok hO.on.toOffDo m hT hp hf g fun h2=>?_
  have hlo:(offF f 2).length=2:=by unfold offF;rw [List.length_drop];omega
  have hov:=hB.off 2
  intro Z hh ca cb
  exact two_all hO.tx g (ok_headD hov hlo (by decide) _) (ok_headD (l:=(offF f 2).drop 1) (n:=1) (fun x hx=>hov x (List.mem_of_mem_drop hx)) (by rw [List.length_drop,hlo]) (by decide) _)
 by_cases g2:op=28∨op=29∨op=30∨op=31∨op=10∨op=9∨op=19
 ·have e:doT M T fs f ⟨op,Int.ofNat k,b⟩=(if f.stack.length<1 then trapT (withF T fs f) 9 else oneT (withF T fs (cutF f 1)) fs (cutF f 1) ⟨op,Int.ofNat k,b⟩ ((offF f 1).headD zeroV)):=by
   rcases g2 with rfl | rfl | rfl | rfl | rfl | rfl | rfl <;> rfl
  rw [e,hw]
  refine doone_ok hO.on.toOffDo m hT hp hf g2 fun hs h' L' c' cv m' hp' hv=>?_
  have hlo:(offF f 1).length=1:=by unfold offF;rw [List.length_drop];omega
  have hov:=ok_headD (hB.off 1) hlo (by decide) zeroV
  exact oneall_ok hO.on m' rfl hp' ⟨nx,by show T.effs.length≤_;omega,by simp [cutF];omega⟩ (by simp [cutF];omega) hv g2 fun _=>by
   intro Z hh ca cb
   exact two_all hO.tx (by omega) (OkW.num ⟨by decide,by decide⟩) hov
 by_cases g3:op=22∨op=23∨op=24∨op=25∨op=26∨op=33∨op=34
 ·refine dact_ok hO.on.toOffDo m hp g3 fun {h' L' c'} m' hp'=>?_
  have hrole:(op=23∨op=25)→∃ p q,M.roles[k]? = some p∧p.params=Int.ofNat q∧q≤30:=fun h=>by
   have al':Int.ofNat k<(M.roles.length:Int):=by
    unfold lim at al
    rw [if_neg (by omega),if_neg (by omega),if_neg (by omega),if_neg (by omega),if_pos h] at al
    exact al
   have hk:k<M.roles.length:=by
    have:(k:Int)<(M.roles.length:Int):=al'
    omega
   have hr:=hM.rs _ (List.getElem_mem hk)
   exact ⟨_,M.roles[k].params.toNat,List.getElem?_eq_getElem hk,(Int.toNat_of_nonneg hr.1).symm,by have:=hr.2.1;omega⟩
  rcases g3 with rfl | rfl | rfl | rfl | rfl | rfl | rfl
  ·have al':(k:Int)<(M.fns.length:Int):=al
   have hk:k<M.fns.length:=by omega
   have hFF:=hM.fs _ _ (List.getElem?_eq_getElem hk)
   have hq:M.fns[k].params=Int.ofNat M.fns[k].params.toNat:=(Int.toNat_of_nonneg hFF.1).symm
   have hv:M.fns[k].vars=Int.ofNat M.fns[k].vars.toNat:=(Int.toNat_of_nonneg (by have:=hFF.1;have:=hFF.2.1;omega)).symm
   have e:doT M T fs f ⟨22,Int.ofNat k,b⟩=callT M T fs f k M.fns[k].params.toNat:=by
    have ew:wantsT M ⟨22,Int.ofNat k,b⟩=M.fns[k].params.toNat:=by
     show ((M.fns[k]?).map fun f=>f.params.toNat).getD 0=_
     rw [List.getElem?_eq_getElem hk];rfl
    show (if f.stack.length<wantsT M ⟨22,Int.ofNat k,b⟩ then trapT (withF T fs f) 9 else if 50≤fs.length+1 then trapT (withF T fs (cutF f (wantsT M ⟨22,Int.ofNat k,b⟩))) 6 else { T with frames:=fs++[cutF f (wantsT M ⟨22,Int.ofNat k,b⟩),framedT M k (offF f (wantsT M ⟨22,Int.ofNat k,b⟩))] })=_
    rw [ew,hw]
    unfold callT
    rw [List.append_assoc]
    rfl
   rw [e]
   exact acall_ok hO.ac hO.fr m' hT hp' hf (List.getElem?_eq_getElem hk) hq (by have:=hFF.2.1;have:=hFF.2.2.1;omega) hv (by have:=hFF.2.2.1;omega) (by omega)
  ·obtain ⟨p,q,hrp,hq,hqb⟩:=hrole (.inl rfl)
   have e:doT M T fs f ⟨23,Int.ofNat k,b⟩=(if f.stack.length<q then trapT T 9 else putT { T with next:=IntKind.i64.wrap (T.next+1),effs:=T.effs++[⟨T.next,Int.ofNat k,[],offF f q⟩] } fs (cutF f q) (actV T.next)):=by
    have ew:wantsT M ⟨23,Int.ofNat k,b⟩=q:=by
     show ((M.roles[k]?).map fun f=>f.params.toNat).getD 0=_
     rw [hrp]
     show p.params.toNat=q
     rw [hq];rfl
    show (if f.stack.length<wantsT M ⟨23,Int.ofNat k,b⟩ then trapT (withF T fs f) 9 else putT { T with next:=IntKind.i64.wrap (T.next+1),effs:=T.effs++[⟨T.next,Int.ofNat k,[],offF f (wantsT M ⟨23,Int.ofNat k,b⟩)⟩] } fs (cutF f (wantsT M ⟨23,Int.ofNat k,b⟩)) (actV T.next))=_
    rw [ew,hw]
   rw [e]
   exact aspawn_ok hO.ac m' hT hp' hf ef hrp hq (by omega)
  ·have al':(k:Int)<(M.tags.length:Int):=al
   have hk:k<M.tags.length:=by omega
   obtain ⟨n,rfl⟩:∃ n:Nat,b=Int.ofNat n:=⟨b.toNat,(Int.toNat_of_nonneg b0).symm⟩
   have hn:n≤255:=by
    have:(n:Int)≤255:=b1
    omega
   have e:doT M T fs f ⟨24,Int.ofNat k,Int.ofNat n⟩=(if f.stack.length<n+1 then trapT T 9 else if ((offF f (n+1)).headD zeroV).kind≠5 then trapT T 1 else { withF T fs (cutF f (n+1)) with effs:=T.effs++[⟨((offF f (n+1)).headD zeroV).num,-1,M.tags[k],(offF f (n+1)).drop 1⟩] }):=by
    have et:(M.tags[k]?).getD []=M.tags[k]:=by rw [List.getElem?_eq_getElem hk];rfl
    show (if f.stack.length<n+1 then trapT (withF T fs f) 9 else if ((offF f (n+1)).headD zeroV).kind≠5 then trapT (withF T fs (cutF f (n+1))) 1 else { withF T fs (cutF f (n+1)) with effs:=T.effs++[⟨((offF f (n+1)).headD zeroV).num,-1,(M.tags[k]?).getD [],(offF f (n+1)).drop 1⟩] })=_
    rw [et,hw]
    rfl
   rw [e]
   exact asend_ok hO.ac m' hT hp' hf (List.getElem?_eq_getElem hk) (by omega)
  ·obtain ⟨p,q,hrp,hq,hqb⟩:=hrole (.inr rfl)
   have e:doT M T fs f ⟨25,Int.ofNat k,b⟩=becT T f k q:=by
    have ew:wantsT M ⟨25,Int.ofNat k,b⟩=q:=by
     show ((M.roles[k]?).map fun f=>f.params.toNat).getD 0=_
     rw [hrp]
     show p.params.toNat=q
     rw [hq];rfl
    show (if f.stack.length<wantsT M ⟨25,Int.ofNat k,b⟩ then trapT (withF T fs f) 9 else { endT T 3 with role:=Int.ofNat k,state:=offF f (wantsT M ⟨25,Int.ofNat k,b⟩) })=_
    rw [ew,hw]
    rfl
   rw [e]
   exact abecome_ok hO.ac m' hT hp' hf hrp hq (by omega)
  ·have e:doT M T fs f ⟨26,Int.ofNat k,b⟩=endT T 2:=by
    show (if f.stack.length<0 then trapT (withF T fs f) 9 else endT T 2)=_
    rw [if_neg (by omega)]
   rw [e]
   exact astop_ok hO.ac m' hT hp' hf
  ·have e:doT M T fs f ⟨33,Int.ofNat k,b⟩=retT T fs f:=by
    unfold retT
    show (if f.stack.length<1 then trapT (withF T fs f) 9 else match fs.getLast? with
     | none=>trapT (withF T fs (cutF f 1)) 9
     | some g=>putT T fs.dropLast g ((offF f 1).headD zeroV))=_
    rw [hw]
    cases fs.getLast? <;> rfl
   rw [e]
   exact areturn_ok hO.ac m' hT hp' hf (by omega) fun g hgl=>hg g (List.mem_of_getLast? hgl)
  ·have hbody:=iend (.inl rfl)
   obtain ⟨kk,rest,p,e0,hr0,hrp,⟨o,hon,hfn⟩,hrest⟩:=hbd
   have hfs:fs=[]:=by
    cases fs with
    | nil=>rfl
    | cons g fs'=>
     exfalso
     rw [hT] at e0
     simp only [List.cons_append,List.map_cons,List.cons.injEq,List.map_append,List.map_nil] at e0
     have:f.fn∈rest:=by rw [← e0.2];simp
     rw [hrest _ this] at hbody
     cases hbody
   subst hfs
   have hk0:f.fn=kk:=by
    rw [hT] at e0
    simp at e0
    exact e0.1
   obtain ⟨r1,r2,r3,_⟩:=hM.rs p (List.mem_of_getElem? hrp)
   obtain ⟨k1,k2,k3,k4,k5⟩:=r3 o hon
   rw [show o.fn.toNat=f.fn by rw [hfn,hk0];rfl,hB.hF] at k5
   simp only [Option.map_some,Option.some.injEq] at k5
   have hq:p.params=Int.ofNat p.params.toNat:=(Int.toNat_of_nonneg r1).symm
   have hr:T.role=Int.ofNat T.role.toNat:=(Int.toNat_of_nonneg hr0).symm
   have e:doT M T [] f ⟨34,Int.ofNat k,b⟩ = { endT T 1 with state:=f.vars.take p.params.toNat }:=by
    have et:((M.roles[T.role.toNat]?).map fun r=>r.params.toNat).getD 0=p.params.toNat:=by rw [hrp];rfl
    show (if f.stack.length<0 then trapT (withF T [] f) 9 else { endT T 1 with state:=f.vars.take (((M.roles[T.role.toNat]?).map fun r=>r.params.toNat).getD 0) })=_
    rw [if_neg (by omega),et]
   rw [e]
   exact aend_ok hO.ac m' hT hp' hf hr hrp hq (by have:=hFk.2.1;omega) (by have:=hFk.2.2.1;omega)
 have h7:op=1∨op=2∨op=3∨op=20∨op=21∨op=27∨op=32:=by omega
 rcases h7 with rfl | rfl | rfl | rfl | rfl | rfl | rfl
 ·have al':(k:Int)<(M.consts.length:Int):=al
  have hk:k<M.consts.length:=by omega
  have e:doT M T fs f ⟨1,Int.ofNat k,b⟩=putT T fs f M.consts[k]:=by
   show putT T fs f ((M.consts[k]?).getD zeroV)=_
   rw [List.getElem?_eq_getElem hk];rfl
  rw [e]
  exact dconst_ok hO.on.toOffDo m hT hp hf (List.getElem?_eq_getElem hk)
 ·have al':(k:Int)<F.vars:=al
  have hk:k<f.vars.length:=by omega
  have e:doT M T fs f ⟨2,Int.ofNat k,b⟩=putT T fs f f.vars[k]:=by
   show putT T fs f ((f.vars[k]?).getD zeroV)=_
   rw [List.getElem?_eq_getElem hk];rfl
  rw [e]
  exact dload_ok hO.on.toOffDo m hT hp hf (List.getElem?_eq_getElem hk)
 ·have al':(k:Int)<F.vars:=al
  have hk:k<f.vars.length:=by omega
  have e:doT M T fs f ⟨3,Int.ofNat k,b⟩=(if f.stack.length<1 then trapT T 9 else withF T fs { cutF f 1 with vars:=f.vars.set k ((offF f 1).headD zeroV) }):=by
   show (if f.stack.length<1 then trapT (withF T fs f) 9 else withF T fs { cutF f 1 with vars:=f.vars.set k ((offF f 1).headD zeroV) })=_
   rw [hw]
  rw [e]
  exact dstore_ok hO.on.toOffDo m hT hp hf hk
 ·have al':(k:Int)<256:=al
  have e:doT M T fs f ⟨20,Int.ofNat k,b⟩=(if f.stack.length<k then trapT T 9 else toldT T fs (cutF f k) (soundV (.mk 4 0 [] (offF f k)))):=by
   show (if f.stack.length<k then trapT (withF T fs f) 9 else toldT T fs (cutF f k) (soundV (.mk 4 0 [] (offF f k))))=_
   rw [hw]
  rw [e]
  exact dtuple_ok hO.on.toOffDo hO.tx.so hO.tx.toOffVR m hT hp hf (by omega) (OkW.rngl (hB.off k))
 ·exact dself_ok hO.on.toOffDo m hT hp hf
 ·exact djump_ok hO.on.toOffDo m hT hp
 ·have e:doT M T fs f ⟨32,Int.ofNat k,b⟩=(if f.stack.length<1 then trapT T 9 else withF T fs (cutF f 1)):=by
   show (if f.stack.length<1 then trapT (withF T fs f) 9 else withF T fs (cutF f 1))=_
   rw [hw]
  rw [e]
  exact dpop_ok hO.on.toOffDo m hT hp hf
theorem step_all (hO:OffIt O) {hb h0:Heap} {L:Lab} {x:Nat} {M:ModA} {T:Trn} {c:MC} (hM:ModOk M) (hT:TrnOk M T) (ef:T.effs.length<1000000) (m:Mac hb L h0 x M T c) :
  WPc tab.get O 62 [.ptr x 0 0 14] h0 (fun _ h'=>Goes hb L h0 x M (stepT M T) h'):=by
 obtain ⟨fs,f,F,i,e,hl,hB,ha,hi,hI,hn,es⟩:=hT.at_work hM
 rw [es]
 have hk:=hM.fs _ _ hB.hF
 refine step_ok hO.st m e hB.hF hi hT.us (by have:=hk.2.2.2.1;omega) (by omega) ?_
 have hdo:doT M { T with used:=IntKind.i64.wrap (T.used+1) } fs { f with at_:=f.at_+1 } i=doT M { T with used:=IntKind.i64.wrap (T.used+1),frames:=fs++[{ f with at_:=f.at_+1 }] } fs { f with at_:=f.at_+1 } i:=rfl
 rw [hdo]
 intro h' L' c' m' hp'
 refine do_all hO hM (F:=F) (T:={ T with used:=IntKind.i64.wrap (T.used+1),frames:=fs++[{ f with at_:=f.at_+1 }] }) rfl hl (hB.at' _) hI ?_ hT.nx ef (fun g hg=>?_) m' hp'
 ·have:=hT.bd
  rw [e] at this
  simpa using this
 ·obtain ⟨G,hG,_⟩:=hT.fs g (by rw [e];exact List.mem_append.2 (.inl hg))
  exact hG.st
end AmT
