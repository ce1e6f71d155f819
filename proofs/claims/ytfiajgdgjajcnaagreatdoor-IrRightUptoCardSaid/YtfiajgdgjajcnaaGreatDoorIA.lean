/-
  The interpreter under the abstract machine, part IA. Conditions: those that each theorem states.
-/
import Derived.Test.YtfiajgdgjajcnaaGreatDoorW
set_option linter.unusedSimpArgs false
set_option linter.unusedVariables false
namespace AmT
open Go Am
end AmT
namespace AmT
open Go Am
set_option maxRecDepth 100000
set_option maxHeartbeats 4000000
variable {O:CallF}
end AmT
namespace AmT
open Go Am
set_option maxRecDepth 100000
set_option maxHeartbeats 4000000
variable {O:CallF}
end AmT
namespace AmT
open Go Am
set_option maxRecDepth 100000
set_option maxHeartbeats 4000000
variable {O:CallF}
end AmT
namespace AmT
open Go Am
set_option maxRecDepth 100000
set_option maxHeartbeats 4000000
variable {O:CallF}
end AmT
namespace AmT
open Go Am
set_option maxRecDepth 100000
set_option maxHeartbeats 4000000
variable {O:CallF}
end AmT
namespace AmT
open Go Am
set_option maxRecDepth 100000
set_option maxHeartbeats 8000000
variable {O:CallF}
structure OffVR (O:CallF):Prop where
 r1:∀ a h,O 136 a h=none
 ri:∀ a h,O 76 a h=none
def RtI (C0:Prop) (lv left:Nat) (l:List Val) (j:Nat) (b:Bool) (x:Int):Prop:=
 (b=true→C0∧okVs lv (l.take j)∧pcss (l.take j)≤left∧x=Int.ofNat (left - pcss (l.take j)))∧(C0→okVs lv (l.take j)→pcss (l.take j)≤left→b=true)
theorem okVs_snoc {lv:Nat} {a:Val} : ∀ {l:List Val},okVs lv (l++[a])↔okVs lv l∧okV lv a
 | []=>by simp only [List.nil_append,okVs,and_true,true_and]
 | b :: l=>by simp only [List.cons_append,okVs,okVs_snoc,and_assoc]
theorem pcss_snoc {a:Val} : ∀ {l:List Val},pcss (l++[a])=pcss l+pcs a
 | []=>by simp only [List.nil_append,pcss];omega
 | b :: l=>by simp only [List.cons_append,pcss,pcss_snoc];omega
theorem okV_ar {lv:Nat} {k n:Int} {s:List UInt8} {l:List Val} (h1 : -9223372036854775808≤n) (h2:n<9223372036854775808) (h4:k≠4) :
  okV lv (.mk k n s l)↔0<lv∧(k=1∧s.length=0∧l.length=0∨k=2∧(n=0∨n=1)∧s.length=0∧l.length=0∨k=3∧n=0∧s.length≤4096∧l.length=0∨k=5∧0≤n∧s.length=0∧l.length=0):=by
 unfold okV
 simp only [List.length_eq_zero_iff]
 constructor
 ·rintro ⟨h,h3⟩
  refine ⟨h,?_⟩
  rcases h3 with ⟨a,_,_,b,c⟩ | ⟨a,b,c,d⟩ | ⟨a,b,c,d⟩ | ⟨a,_⟩ | ⟨a,b,_,c,d⟩
  ·exact .inl ⟨a,b,c⟩
  ·exact .inr (.inl ⟨a,b,c,d⟩)
  ·exact .inr (.inr (.inl ⟨a,b,c,d⟩))
  ·exact absurd a h4
  ·exact .inr (.inr (.inr ⟨a,b,c,d⟩))
 ·rintro ⟨h,h3⟩
  refine ⟨h,?_⟩
  rcases h3 with ⟨a,b,c⟩ | ⟨a,b,c,d⟩ | ⟨a,b,c,d⟩ | ⟨a,b,c,d⟩
  ·exact .inl ⟨a,h1,h2,b,c⟩
  ·exact .inr (.inl ⟨a,b,c,d⟩)
  ·exact .inr (.inr (.inl ⟨a,b,c,d⟩))
  ·exact .inr (.inr (.inr (.inr ⟨a,b,h2,c,d⟩)))
def PlainV (lv left:Nat) (k n:Int) (sl ll:Nat):Prop:=
 Int.ofNat 0≤(left:Int) - 1∧0<lv∧ll=0∧(k=Int.ofNat 1∧sl=0∨k=Int.ofNat 2∧(n=Int.ofNat 0∨n=Int.ofNat 1)∧sl=0∨k=Int.ofNat 3∧n=Int.ofNat 0∧sl≤4096∨k=Int.ofNat 5∧Int.ofNat 0≤n∧sl=0)
theorem plainV {lv left:Nat} {k n:Int} {s:List UInt8} {l:List Val} {ll:Nat} (hll:ll=l.length) (h1 : -9223372036854775808≤n) (h2:n<9223372036854775808) (h4:k≠4) :
  (PlainV lv left k n s.length ll→okV lv (.mk k n s l)∧pcs (.mk k n s l)≤left∧(left:Int) - 1=Int.ofNat (left - pcs (.mk k n s l)))∧
  (okV lv (.mk k n s l)→pcs (.mk k n s l)≤left→PlainV lv left k n s.length ll):=by
 subst hll
 have z0:Int.ofNat 0=0:=rfl
 have z1:Int.ofNat 1=1:=rfl
 have z2:Int.ofNat 2=2:=rfl
 have z3:Int.ofNat 3=3:=rfl
 have z5:Int.ofNat 5=5:=rfl
 have hpl:=pcss_len l
 have hp0:l.length=0→pcss l=0:=fun e=>by rw [List.length_eq_zero_iff.1 e];rfl
 rw [okV_ar h1 h2 h4]
 have e3:Int.ofNat (left - (1+pcss l))=((left - (1+pcss l):Nat):Int):=rfl
 simp only [PlainV,pcs,e3,z0,z1,z2,z3,z5]
 constructor
 ·rintro ⟨g1,g2,g3,g4⟩
  have:=hp0 g3
  exact ⟨⟨g2,by omega⟩,by omega,by omega⟩
 ·rintro ⟨g1,g2⟩ g3
  exact ⟨by omega,by omega,by omega,by omega⟩
theorem vr_plain (hO:OffVR O) {Z:Nat→Prop} {k n:Int} {s:List UInt8} {l:List Val} {h0:Heap} {c:List V} {i2 i3 lv left:Nat} (hv:VaR Z h0 (.mk k n s l) c) (ht:RngV (.mk k n s l)) (h2:Own h0 i2 [.int .i64 (.ofNat left)]) (h3:Own h0 i3 [.fn 136 [] [.ptr i2 0 0 1,.ptr i3 0 0 1]]) (hne:i2≠i3) (hZ:¬ Z i2) (hl:left≤256) (hlv:lv≤16) (hk4:k≠4) :
  WPc tab.get O 136 [.agg c,.int .i64 (.ofNat lv),.ptr i2 0 0 1,.ptr i3 0 0 1] h0 (fun v h'=>∃ b x,v=.bool b∧Own h' i2 [.int .i64 x]∧ExtX [i2] h0 h'∧(b=true→okV lv (.mk k n s l)∧pcs (.mk k n s l)≤left∧x=Int.ofNat (left - pcs (.mk k n s l)))∧(okV lv (.mk k n s l)→pcs (.mk k n s l)≤left→b=true)):=by
 refine w_fn' (hO.r1 _ _) rfl rfl (by simp only [c136,initV,nth] <;> rfl) ?_
 have hs:=hv.shape
 have hi2:=h2.1
 refine w_seq (w_reg (w_box rfl hs.1 hs.2 fun i5 h1 hB hiB hE1=>?_))
 replace hB:Own h1 i5 c:=hB
 replace hv:=hv.ext0 hE1
 replace h2:=h2.ext0 hE1
 replace h3:=h3.ext0 hE1
 have m1:=hE1.1
 unfold VaR at hv
 obtain ⟨tv,lc,rfl,rt,hl2⟩:=hv
 have hlen:=hl2.len
 have r1:=rt.1
 unfold RngV at ht
 repeat' (first|refine w_seq ?_|refine w_reg ?_|refine w_e ?_|refine w_fl rfl (by assumption) (by rfl) (by rfl) (by rfl) ?_|refine w_opk rfl rfl ?_)
 have hw:wrapK .i64 (Int.ofNat left - Int.ofNat 1)=(left:Int) - 1:=by
  rw [wrapK_eq]
  exact wrap_i64_of (by have:Int.ofNat left - Int.ofNat 1=(left:Int) - 1:=rfl;omega) (by have:Int.ofNat left - Int.ofNat 1=(left:Int) - 1:=rfl;omega)
 rw [hw]
 refine w_store rfl rfl h2 rfl rfl (by decide) (by simp) fun h6 k2 y6 z6=>?_
 replace k2:Own h6 i2 [.int .i64 ((left:Int) - 1)]:=k2
 have hB6:=hB.ext y6 (by simp;omega)
 have h36:=h3.ext y6 (by simp;exact fun e=>hne e.symm)
 have r6:=r1.ext y6 fun id off len ver e f hv=>by
  simp only [List.mem_singleton]
  exact fun hm=>hZ (hm▸rt.2 id (by rw [hv];simp [slIds]))
 have E6:ExtX [i2] h0 h6:=(hE1.mono (by simp)).trans y6
 clear h2 hB r1 h3 hE1 hs
 have hpl:=pcss_len l
 have hp0:l.length=0→pcss l=0:=fun e=>by rw [List.length_eq_zero_iff.1 e];rfl
 have hpv:=fun s=>plainV (lv:=lv) (left:=left) (s:=s) hlen ht.1 ht.2.1 hk4
 clear hpl hp0
 rcases s with _ | ⟨s0,s1⟩
 all_goals (repeat' (first|refine w_seq ?_|refine w_reg ?_|refine w_e ?_|refine w_off rfl ?_|refine w_rf rfl (by assumption) (by rfl) (by rfl) (by rfl) ?_|refine w_rfg rfl rfl (by assumption) (by rfl) (by rfl) (by rfl) (by rfl) ?_|refine w_fl rfl (by assumption) (by rfl) (by rfl) (by rfl) ?_|refine w_on rfl ?_|refine w_len rfl (by assumption) ?_|refine w_gtrN rfl rfl (fun hc=>?_) (fun hc=>?_)|refine w_eqlN rfl rfl (fun hc=>?_) (fun hc=>?_)|refine w_geq rfl rfl (fun hc=>?_) (fun hc=>?_)|refine w_opk rfl rfl ?_))
 all_goals refine w_block ?_
 all_goals (repeat' (first|refine w_seq ?_|refine w_reg ?_|refine w_e ?_|refine w_off rfl ?_|refine w_rf rfl (by assumption) (by rfl) (by rfl) (by rfl) ?_|refine w_rfg rfl rfl (by assumption) (by rfl) (by rfl) (by rfl) (by rfl) ?_|refine w_on rfl ?_|refine w_len rfl (by assumption) ?_|refine w_leqN rfl rfl (fun hc=>?_) (fun hc=>?_)|refine w_eqlN rfl rfl (fun hc=>?_) (fun hc=>?_)|refine w_geq rfl rfl (fun hc=>?_) (fun hc=>?_)|refine w_eql rfl rfl (fun hc=>?_) (fun hc=>?_)|refine w_opk rfl rfl ?_|refine w_cond_t rfl ?_|refine w_cond_f rfl ?_|refine w_skip ?_|refine w_ret ?_|refine w_rt rfl ?_))
 all_goals first
  | exact absurd (by assumption) hk4
  | skip
 all_goals refine ⟨_,_,rfl,k2,E6,fun hb=>?_,fun hok hp=>?_⟩
 all_goals first
  | (cases hb;done)
  | rfl
  | exact (hpv _).1 ⟨by assumption,by assumption,by assumption,by simp_all⟩
  | (have hq:=(hpv _).2 hok hp;unfold PlainV at hq;exfalso;simp_all;done)
  | (have hq:=(hpv _).2 hok hp;unfold PlainV at hq;exfalso;simp_all;omega)
  | skip
end AmT
namespace AmT
open Go Am
set_option maxRecDepth 100000
set_option maxHeartbeats 8000000
variable {O:CallF}
theorem okV_4 {lv:Nat} {n:Int} {s:List UInt8} {l:List Val} : okV lv (.mk 4 n s l)↔0<lv∧n=0∧s.length=0∧okVs (lv - 1) l:=by
 unfold okV
 simp only [List.length_eq_zero_iff]
 constructor
 ·rintro ⟨h,h3⟩
  rcases h3 with ⟨a,_⟩ | ⟨a,_⟩ | ⟨a,_⟩ | ⟨_,a,b,c⟩ | ⟨a,_⟩
  ·exact absurd a (by decide)
  ·exact absurd a (by decide)
  ·exact absurd a (by decide)
  ·exact ⟨h,a,b,c⟩
  ·exact absurd a (by decide)
 ·rintro ⟨h,a,b,c⟩
  exact ⟨h,.inr (.inr (.inr (.inl ⟨by trivial,a,b,c⟩)))⟩
theorem RtI.no {C0:Prop} {lv left:Nat} {l:List Val} {j:Nat} {x:Int} (k:RtI C0 lv left l j false x) (hj:j<l.length):RtI C0 lv left l (j+1) false x:=by
 unfold RtI at *
 refine ⟨(fun e=>by cases e),fun c o p=>?_⟩
 rw [(List.take_append_getElem hj).symm,okVs_snoc] at o
 rw [(List.take_append_getElem hj).symm,pcss_snoc] at p
 exact k.2 c o.1 (by omega)
theorem RtI.yes {C0:Prop} {lv left:Nat} {l:List Val} {j:Nat} {x y:Int} {b:Bool} (k:RtI C0 lv left l j true x) (hj:j<l.length)
  (h1:b=true→okV lv l[j]∧pcs l[j]≤left - pcss (l.take j)∧y=Int.ofNat (left - pcss (l.take j) - pcs l[j])) (h2:okV lv l[j]→pcs l[j]≤left - pcss (l.take j)→b=true):RtI C0 lv left l (j+1) b y:=by
 unfold RtI at *
 obtain ⟨c,o,p,e⟩:=k.1 rfl
 rw [(List.take_append_getElem hj).symm,okVs_snoc,pcss_snoc]
 refine ⟨fun hb=>?_,fun _ o2 p2=>h2 o2.2 (by omega)⟩
 obtain ⟨q1,q2,q3⟩:=h1 hb
 refine ⟨c,⟨o,q1⟩,by omega,?_⟩
 rw [q3]
 congr 1
 omega
theorem vr_tuple (hO:OffVR O) {Z:Nat→Prop} {n:Int} {s:List UInt8} {l:List Val} {h0:Heap} {c:List V} {i2 i3 lv left:Nat} (hv:VaR Z h0 (.mk 4 n s l) c) (ht:RngV (.mk 4 n s l)) (h2:Own h0 i2 [.int .i64 (.ofNat left)]) (h3:Own h0 i3 [.fn 136 [] [.ptr i2 0 0 1,.ptr i3 0 0 1]]) (hne:i2≠i3) (hZ:¬ Z i2) (hl:left≤256) (hlv:lv≤16)
  (ih:∀ a∈l,∀ {h0:Heap} {c:List V} {lv left:Nat},VaR Z h0 a c→RngV a→Own h0 i2 [.int .i64 (.ofNat left)]→Own h0 i3 [.fn 136 [] [.ptr i2 0 0 1,.ptr i3 0 0 1]]→left≤256→lv≤16→WPc tab.get O 136 [.agg c,.int .i64 (.ofNat lv),.ptr i2 0 0 1,.ptr i3 0 0 1] h0 (fun v h'=>∃ b x,v=.bool b∧Own h' i2 [.int .i64 x]∧ExtX [i2] h0 h'∧(b=true→okV lv a∧pcs a≤left∧x=Int.ofNat (left - pcs a))∧(okV lv a→pcs a≤left→b=true))) :
  WPc tab.get O 136 [.agg c,.int .i64 (.ofNat lv),.ptr i2 0 0 1,.ptr i3 0 0 1] h0 (fun v h'=>∃ b x,v=.bool b∧Own h' i2 [.int .i64 x]∧ExtX [i2] h0 h'∧(b=true→okV lv (.mk 4 n s l)∧pcs (.mk 4 n s l)≤left∧x=Int.ofNat (left - pcs (.mk 4 n s l)))∧(okV lv (.mk 4 n s l)→pcs (.mk 4 n s l)≤left→b=true)):=by
 refine w_fn' (hO.r1 _ _) rfl rfl (by simp only [c136,initV,nth] <;> rfl) ?_
 have hs:=hv.shape
 have hi2:=h2.1
 refine w_seq (w_reg (w_box rfl hs.1 hs.2 fun i5 h1 hB hiB hE1=>?_))
 replace hB:Own h1 i5 c:=hB
 replace hv:=hv.ext0 hE1
 replace h2:=h2.ext0 hE1
 replace h3:=h3.ext0 hE1
 have m1:=hE1.1
 unfold VaR at hv
 obtain ⟨tv,lc,rfl,rt,hl2⟩:=hv
 have hlen:=hl2.len
 have r1:=rt.1
 unfold RngV at ht
 repeat' (first|refine w_seq ?_|refine w_reg ?_|refine w_e ?_|refine w_fl rfl (by assumption) (by rfl) (by rfl) (by rfl) ?_|refine w_opk rfl rfl ?_)
 have hw:wrapK .i64 (Int.ofNat left - Int.ofNat 1)=(left:Int) - 1:=by
  rw [wrapK_eq]
  exact wrap_i64_of (by have:Int.ofNat left - Int.ofNat 1=(left:Int) - 1:=rfl;omega) (by have:Int.ofNat left - Int.ofNat 1=(left:Int) - 1:=rfl;omega)
 rw [hw]
 refine w_store rfl rfl h2 rfl rfl (by decide) (by simp) fun h6 k2 y6 z6=>?_
 replace k2:Own h6 i2 [.int .i64 ((left:Int) - 1)]:=k2
 have hB6:=hB.ext y6 (by simp;omega)
 have h36:=h3.ext y6 (by simp;exact fun e=>hne e.symm)
 have r6:=r1.ext y6 fun id off len ver e f hv=>by
  simp only [List.mem_singleton]
  exact fun hm=>hZ (hm▸rt.2 id (by rw [hv];simp [slIds]))
 have E6:ExtX [i2] h0 h6:=(hE1.mono (by simp)).trans y6
 clear h2 hB r1 h3 hE1 hs
 have hpl:=pcss_len l
 have hp0:l.length=0→pcss l=0:=fun e=>by rw [List.length_eq_zero_iff.1 e];rfl
 have z0:Int.ofNat 0=0:=rfl
 obtain ⟨q,hq⟩:∃ q,iEq n (Int.ofNat 0)=q:=⟨_,rfl⟩
 have hqn:q=true↔n=0:=by rw [← hq,iEq_eq];exact decide_eq_true_iff
 obtain ⟨C0,hC0⟩:∃ C0:Prop,(C0↔0<lv∧1≤left∧n=0∧s.length=0):=⟨_,Iff.rfl⟩
 have hfin:=okV_4 (lv:=lv) (n:=n) (s:=s) (l:=l)
 have hpc:pcs (.mk 4 n s l)=1+pcss l:=rfl
 rcases s with _ | ⟨s0,s1⟩
 all_goals (repeat' (first|refine w_seq ?_|refine w_reg ?_|refine w_e ?_|refine w_off rfl ?_|refine w_rf rfl (by assumption) (by rfl) (by rfl) (by rfl) ?_|refine w_rfg rfl rfl (by assumption) (by rfl) (by rfl) (by rfl) (by rfl) ?_|refine w_fl rfl (by assumption) (by rfl) (by rfl) (by rfl) ?_|refine w_on rfl ?_|refine w_len rfl (by assumption) ?_|refine w_gtrN rfl rfl (fun hc=>?_) (fun hc=>?_)|refine w_eqlN rfl rfl (fun hc=>?_) (fun hc=>?_)|refine w_geq rfl rfl (fun hc=>?_) (fun hc=>?_)|refine w_opk rfl rfl ?_))
 all_goals refine w_block ?_
 all_goals (repeat' (first|refine w_seq ?_|refine w_reg ?_|refine w_e ?_|refine w_off rfl ?_|refine w_rf rfl (by assumption) (by rfl) (by rfl) (by rfl) ?_|refine w_rfg rfl rfl (by assumption) (by rfl) (by rfl) (by rfl) (by rfl) ?_|refine w_on rfl ?_|refine w_len rfl (by assumption) ?_|refine w_opk rfl rfl ?_|refine w_cond_t rfl ?_|refine w_cond_f rfl ?_))
 all_goals first
  | (rw [hq];cases q)
  | skip
 all_goals (repeat' (first|refine w_seq ?_|refine w_reg ?_|refine w_e ?_|refine w_off rfl ?_|refine w_rf rfl (by assumption) (by rfl) (by rfl) (by rfl) ?_|refine w_rfg rfl rfl (by assumption) (by rfl) (by rfl) (by rfl) (by rfl) ?_|refine w_on rfl ?_|refine w_len rfl (by assumption) ?_|refine w_opk rfl rfl ?_))
 all_goals refine w_count (fun j vs h=>∃ b x c0 c7 c9 c10 c11 c12 c13 c16 c18,vs=[c0,.int .i64 (.ofNat lv),.ptr i2 0 0 1,.ptr i3 0 0 1,.bool false,.ptr i5 0 0 4,.int .u8 4,c7,.bool b,c9,c10,c11,c12,c13,.int .i64 (.ofNat j),.int .i64 (.ofNat lc.length),c16,tv,c18]∧Own h i2 [.int .i64 x]∧ExtX [i2] h6 h∧RtI C0 (lv - 1) (left - 1) l j b x) lc.length ⟨_,_,_,_,_,_,_,_,_,_,_,rfl,k2,ExtX.refl _ _,?_⟩ ?_
 all_goals first
  | (refine ⟨fun _=>⟨hC0.2 ⟨by omega,by omega,by simp_all,by simp⟩,by unfold List.take okVs;trivial,Nat.zero_le _,?_⟩,fun _ _ _=>rfl⟩
     show (left:Int) - 1=((left - 1 - 0:Nat):Int)
     omega)
  | (refine ⟨(fun e=>by cases e),fun hc0 _ _=>?_⟩
     exfalso
     have hc1:=hC0.1 hc0
     simp only [List.length_cons,List.length_nil] at hc1
     first | omega | simp_all)
  | skip
 all_goals (
  rintro j vs h hj ⟨b,x,c0,c7,c9,c10,c11,c12,c13,c16,c18,rfl,q2,qE,qR⟩
  have htl:=ht.2.2.1
  have hzs:∀ i,Z i→i∉[i2]:=fun i hz hm=>by simp only [List.mem_singleton] at hm;exact hZ (hm▸hz)
  have r8:=r6.ext qE fun id off len ver e f hv=>hzs id (rt.2 id (by rw [hv];simp [slIds]))
  have h38:=h36.ext qE (by simp;exact fun e=>hne e.symm)
  repeat' (first|refine w_seq ?_|refine w_reg ?_|refine w_e ?_|refine w_lssN rfl rfl (fun hc=>?_) (fun hc=>?_)|refine w_opk rfl rfl ?_|refine w_cond_t rfl ?_|refine w_cond_f rfl ?_|refine w_skip ?_|refine w_exit rfl ?_|refine w_ret ?_|refine w_rt rfl ?_)
  ·have hj1:j<lc.length:=by assumption
   have hj2:j<l.length:=by omega
   have va8:VaR Z h l[j] lc[j]:=((hl2.get hj2 hj1).ext y6 hzs fun _ z _=>z).ext qE hzs fun _ z _=>z
   have hsh:=va8.shape
   refine w_block ?_
   repeat' (first|refine w_seq ?_|refine w_reg ?_)
   refine w_iadrS rfl rfl r8 hj1 ?_
   refine w_loadA rfl (slot_at r8 hj1) (by rw [hsh.1];rfl) ?_
   rw [show List.take 4 lc[j]=lc[j] from List.take_of_length_le (by omega)]
   refine w_new (fun p=>rfl) hsh.1 rfl hsh.2 fun iX h9 hX hiX hE9=>?_
   replace hX:Own h9 iX lc[j]:=hX
   have h39:=h38.ext0 hE9
   have E9:ExtX [i2] h6 h9:=qE.trans (hE9.mono (by simp))
   clear h38 h36
   cases b with
   | false=>
    repeat' (first|refine w_reg ?_|refine w_e ?_|refine w_off rfl ?_|refine w_addN rfl rfl (by omega) ?_|refine w_opk rfl rfl ?_)
    exact ⟨hj1,false,x,_,_,_,_,_,_,_,_,_,rfl,q2.ext0 hE9,E9,qR.no hj2⟩
   | true=>
    have qR2:=qR
    obtain ⟨hc0,o,p,e⟩:=qR2.1 rfl
    have hc1:=hC0.1 hc0
    subst e
    repeat' (first|refine w_reg ?_|refine w_e ?_|refine w_fl rfl (by assumption) (by rfl) (by rfl) (by rfl) ?_|refine w_on rfl ?_|refine w_opk rfl rfl ?_)
    refine w_loadA rfl (hX.at hsh.1) (by show Nat.ble 4 lc[j].length=true;rw [hsh.1];rfl) ?_
    rw [show List.take 4 lc[j]=lc[j] from List.take_of_length_le (by omega)]
    repeat' (first|refine w_on rfl ?_|refine w_opk rfl rfl ?_)
    have hwl:wrapK .i64 (Int.ofNat lv - Int.ofNat 1)=Int.ofNat (lv - 1):=by
     rw [wrapK_eq]
     have e1:Int.ofNat lv - Int.ofNat 1=(lv:Int) - 1:=rfl
     have e2:Int.ofNat (lv - 1)=((lv - 1:Nat):Int):=rfl
     rw [e1,e2,wrap_i64_of (by omega) (by omega)]
     omega
    rw [hwl]
    refine w_callv rfl rfl ((ih _ (List.getElem_mem hj2) (va8.ext0 hE9) (ht.2.2.2.mem _ (List.getElem_mem hj2)) (q2.ext0 hE9) h39 (by omega) (by omega)).mono fun _ h10 ⟨b2,x2,e2,g2,gE,g3,g4⟩=>?_)
    subst e2
    repeat' (first|refine w_reg ?_|refine w_e ?_|refine w_addN rfl rfl (by omega) ?_|refine w_opk rfl rfl ?_)
    exact ⟨hj1,b2,x2,_,_,_,_,_,_,_,_,_,rfl,g2,E9.trans gE,qR.yes hj2 g3 g4⟩
  ·have hjl:lc.length≤j:=by assumption
   rw [RtI,List.take_of_length_le (show l.length≤j by omega)] at qR
   refine ⟨b,x,rfl,q2,E6.trans qE,fun hb=>?_,fun hok hp=>?_⟩
   ·obtain ⟨g1,g2,g3,g4⟩:=qR.1 hb
    have hc1:=hC0.1 g1
    refine ⟨hfin.2 ⟨hc1.1,hc1.2.2.1,hc1.2.2.2,g2⟩,by rw [hpc];omega,?_⟩
    rw [g4,hpc]
    congr 1
    omega
   ·have hk:=hfin.1 hok
    rw [hpc] at hp
    exact qR.2 (hC0.2 ⟨hk.1,by omega,hk.2.1,hk.2.2.1⟩) hk.2.2.2 (by omega))
theorem vright1_ok (hO:OffVR O) {Z:Nat→Prop} {i2 i3:Nat} (hne:i2≠i3) (hZ:¬ Z i2):∀ (m:Nat) (a:Val) {h0:Heap} {c:List V} {lv left:Nat},sizeOf a<m→VaR Z h0 a c→RngV a→Own h0 i2 [.int .i64 (.ofNat left)]→Own h0 i3 [.fn 136 [] [.ptr i2 0 0 1,.ptr i3 0 0 1]]→left≤256→lv≤16→
  WPc tab.get O 136 [.agg c,.int .i64 (.ofNat lv),.ptr i2 0 0 1,.ptr i3 0 0 1] h0 (fun v h'=>∃ b x,v=.bool b∧Own h' i2 [.int .i64 x]∧ExtX [i2] h0 h'∧(b=true→okV lv a∧pcs a≤left∧x=Int.ofNat (left - pcs a))∧(okV lv a→pcs a≤left→b=true))
 | 0,a,_,_,_,_,hm,_,_,_,_,_,_=>absurd hm (Nat.not_lt_zero _)
 | m+1,.mk k n s l,h0,c,lv,left,hm,hv,ht,h2,h3,hl,hlv=>by
  by_cases hk:k=4
  ·subst hk
   exact vr_tuple hO hv ht h2 h3 hne hZ hl hlv fun a ha h0 c lv left q1 q2 q3 q4 q5 q6=>vright1_ok hO hne hZ m a (by have:=List.sizeOf_lt_of_mem ha;simp only [Val.mk.sizeOf_spec] at hm;omega) q1 q2 q3 q4 q5 q6
  ·exact vr_plain hO hv ht h2 h3 hne hZ hl hlv hk
end AmT
namespace AmT
open Go Am
set_option maxRecDepth 100000
set_option maxHeartbeats 8000000
variable {O:CallF}
theorem vright_ok (hO:OffVR O) {Z:Nat→Prop} {h0:Heap} {a:Val} {c:List V} (hv:VaR Z h0 a c) (hz:∀ i,Z i→i<h0.n) (ht:RngV a) :
  WPc tab.get O 76 [.agg c] h0 (fun v h'=>(∃ b,v=.bool b∧(b=true↔cVal.ok a))∧Ext h0 h'):=by
 refine w_fn' (hO.ri _ _) rfl rfl (by simp only [c76,initV,nth] <;> rfl) ?_
 have hs:=hv.shape
 refine w_seq (w_reg (w_box rfl hs.1 hs.2 fun i5 h1 hB hiB hE1=>?_))
 replace hB:Own h1 i5 c:=hB
 have m1:=hE1.1
 have hBl:=hB.1
 repeat' (first|refine w_seq ?_|refine w_reg ?_|refine w_e ?_|refine w_opk rfl rfl ?_)
 refine w_alloc fun i2 h2 hL hiL hE2=>?_
 refine w_store rfl rfl hL rfl rfl (by decide) (by simp) fun h3 hL2 y3 z3=>?_
 replace hL2:Own h3 i2 [.int .i64 (.ofNat 256)]:=hL2
 have m2:=hE2.1
 have hLl:=hL2.1
 have e3:Ext h1 h3:=hE2.step y3 fun j hj=>by simp at hj;exact .inr (by omega)
 repeat' (first|refine w_seq ?_|refine w_reg ?_|refine w_e ?_)
 refine w_alloc fun i3 h4 hF hiF hE4=>?_
 have m4:=hE4.1
 repeat' (first|refine w_seq ?_|refine w_reg ?_|refine w_e ?_|refine w_opk rfl rfl ?_)
 refine w_store rfl rfl hF rfl rfl (by decide) (by simp) fun h5 hF2 y5 z5=>?_
 replace hF2:Own h5 i3 [.fn 136 [] [.ptr i2 0 0 1,.ptr i3 0 0 1]]:=hF2
 have e5:Ext h3 h5:=hE4.step y5 fun j hj=>by simp at hj;exact .inr (by omega)
 have hL5:=hL2.ext0 e5
 have hB5:=(hB.ext0 e3).ext0 e5
 have E5:=(hE1.trans e3).trans e5
 have hne:i2≠i3:=by omega
 have hZ:¬ Z i2:=fun h=>by have:=hz _ h;omega
 clear hF y5 y3 hL hE2 hE4
 repeat' (first|refine w_seq ?_|refine w_reg ?_|refine w_e ?_|refine w_fl rfl (by assumption) (by rfl) (by rfl) (by rfl) ?_)
 refine w_loadA rfl (hB5.at hs.1) (by rw [hs.1];rfl) ?_
 rw [show List.take 4 c=c from List.take_of_length_le (by omega)]
 refine w_callv rfl rfl ((vright1_ok (lv:=16) hO hne hZ (sizeOf a+1) a (by omega) (hv.ext0 E5) ht hL5 hF2 (by omega) (by omega)).mono fun _ h6 ⟨b,x,e,g2,gE,g3,g4⟩=>?_)
 subst e
 repeat' (first|refine w_e ?_|refine w_opk rfl rfl ?_|refine w_ret ?_|refine w_rt rfl ?_)
 exact ⟨⟨b,rfl,fun hb=>⟨(g3 hb).1,(g3 hb).2.1⟩,fun hc=>g4 hc.1 hc.2⟩,E5.step gE fun j hj=>by simp at hj;exact .inr (by omega)⟩
end AmT
namespace AmT
open Go Am
set_option maxRecDepth 100000
set_option maxHeartbeats 4000000
variable {O:CallF}
structure OffMc (O:CallF):Prop where
 tr:∀ a h,O 61 a h=none
 en:∀ a h,O 245 a h=none
 pu:∀ a h,O 192 a h=none
 ta:∀ a h,O 193 a h=none
 to:∀ a h,O 194 a h=none
 cl:∀ a h,O 56 a h=none
end AmT
namespace AmT
open Go Am
set_option maxRecDepth 100000
set_option maxHeartbeats 4000000
variable {O:CallF}
structure OffRt (O:CallF):Prop extends OffVR O where
 rr1:∀ a h,O 127 a h=none
 ix:∀ a h,O 191 a h=none
 cf:∀ a h,O 126 a h=none
 r:∀ a h,O 55 a h=none
end AmT
