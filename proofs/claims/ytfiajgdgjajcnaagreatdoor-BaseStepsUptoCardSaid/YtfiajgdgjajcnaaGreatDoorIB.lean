/-
  The interpreter under the abstract machine, part IB. Conditions: those that each theorem states.
-/
import Derived.Test.YtfiajgdgjajcnaaGreatDoorIA
set_option linter.unusedSimpArgs false
set_option linter.unusedVariables false
namespace AmT
open Go Am
set_option maxRecDepth 100000
set_option maxHeartbeats 4000000
variable {O:CallF}
structure OffMc (O:CallF):Prop where
 tr:∀ a h,O 61 a h=none
 en:∀ a h,O 245 a h=none
 pu:∀ a h,O 192 a h=none
 ta:∀ a h,O 193 a h=none
 to:∀ a h,O 194 a h=none
 cl:∀ a h,O 56 a h=none
def Goes (hb:Heap) (L:Lab) (h0:Heap) (x:Nat) (M:ModA) (T':Trn) (h':Heap):Prop:=∃ L' c',Mac hb L' h' x M T' c'∧LabE L h0 L'∧Keep L h0 h'
theorem wrap_pred (a:Int):IntKind.i64.wrap (IntKind.i64.wrap a - 1)=IntKind.i64.wrap (a - 1):=by
 rw [wrap_i64_eq,wrap_i64_eq,wrap_i64_eq]
 omega
theorem spawns_snoc (l:List Eff) (e:Eff):spawns (l++[e])=spawns l+(if 0≤e.role then 1 else 0):=by
 unfold spawns
 rw [List.filter_append,List.length_append]
 congr 1
 by_cases h:0≤e.role
 ·simp [h]
 ·simp [h]
theorem trapM_ok (hO:OffMc O) {hb h0:Heap} {L:Lab} {x:Nat} {M:ModA} {T:Trn} {c:MC} {n:Int} (m:Mac hb L h0 x M T c) (hn:I64 T.next) (he:T.effs.length≤1000000) :
  WPc tab.get O 61 [.ptr x 0 0 14,.int .i64 n] h0 (fun _ h'=>Goes hb L h0 x M (trapT T n) h'):=by
 refine w_fn' (hO.tr _ _) rfl rfl (by simp only [c61,initV,nth] <;> rfl) ?_
 have hX:Own h0 x [c.m0,c.m1,c.m2,c.m3,c.fr,c.ef,.int .i64 T.self,.int .i64 T.next,.int .i64 T.used,.int .u8 T.over,.int .i64 T.trap,.int .i64 T.role,c.st,c.fp]:=m.own
 have hE:=m.ef.rs
 have hel:=m.es.1
 have hEx:x∉slIds c.ef:=fun hm=>by have:=m.efl x hm;have:=m.lx;omega
 repeat' (first|refine w_seq ?_|refine w_reg ?_|refine w_e ?_|refine w_fl rfl (by assumption) (by rfl) (by rfl) (by rfl) ?_|refine w_len rfl (by assumption) ?_|refine w_opk rfl rfl ?_)
 refine w_count (fun j vs' h=>(∃ b4 b6 b7,vs'=[.ptr x 0 0 14,.int .i64 n,.int .i64 (.ofNat j),.int .i64 (.ofNat c.le.length),b4,c.ef,b6,b7])∧Own h x [c.m0,c.m1,c.m2,c.m3,c.fr,c.ef,.int .i64 T.self,.int .i64 (IntKind.i64.wrap (T.next - spawns (T.effs.take j))),.int .i64 T.used,.int .u8 T.over,.int .i64 T.trap,.int .i64 T.role,c.st,c.fp]∧ExtX [x] h0 h) c.le.length ⟨⟨_,_,_,rfl⟩,by simpa [spawns,wrap_i64_of hn.1 (show T.next≤9223372036854775807 from Int.le_of_lt_add_one hn.2)] using hX,ExtX.refl _ _⟩ ?_
 rintro j vs' h hj ⟨⟨b4,b6,b7,rfl⟩,hX',hEx'⟩
 have r':=hE.ext hEx' (fun id off len ver e f hv=>by
  intro hm
  simp at hm
  subst hm
  exact hEx (by rw [hv];simp [slIds]))
 have lx:=hX'.1
 clear hX hE
 repeat' (first|refine w_seq ?_|refine w_reg ?_|refine w_e ?_|refine w_lssN rfl rfl (fun hc=>?_) (fun hc=>?_)|refine w_opk rfl rfl ?_|refine w_cond_t rfl ?_|refine w_cond_f rfl ?_|refine w_skip ?_|refine w_exit rfl ?_)
 ·have hje:j<c.le.length:=by assumption
  have hje2:j<T.effs.length:=by omega
  have hef:=m.es.get hje hje2
  have hsn:=spawns_snoc (T.effs.take j) T.effs[j]
  rw [List.take_append_getElem hje2] at hsn
  rw [hsn]
  obtain ⟨ev,elc,e,er,_⟩:=hef
  have e1:allOne c.le[j]=true:=by rw [e];simp only [allOne,er.1.one];rfl
  have el:c.le[j].length=4:=by rw [e];rfl
  refine w_block ?_
  repeat' (first|refine w_seq ?_|refine w_reg ?_)
  refine w_iadrS rfl rfl r' hje ?_
  refine w_loadA rfl (slot_at r' hje) (by rw [el];rfl) ?_
  rw [show List.take 4 c.le[j]=c.le[j] from List.take_of_length_le (by omega),e]
  rw [e] at el e1
  generalize T.effs[j]=E at *
  refine w_new (fun p=>rfl) el rfl e1 fun iX h2 hX2 hiX hE2=>?_
  replace hX2:Own h2 iX [.int .i64 E.to,.int .i64 E.role,.str E.tag,ev]:=hX2
  have hX3:=hX'.ext0 hE2
  have hE3:ExtX [x] h0 h2:=hEx'.trans (hE2.mono (by simp))
  repeat' (first|refine w_seq ?_|refine w_reg ?_|refine w_e ?_|refine w_rf rfl (by assumption) (by rfl) (by rfl) (by rfl) ?_|refine w_fl rfl (by assumption) (by rfl) (by rfl) (by rfl) ?_|refine w_geq rfl rfl (fun hc=>?_) (fun hc=>?_)|refine w_addN rfl rfl (by omega) ?_|refine w_opk rfl rfl ?_|refine w_cond_t rfl ?_|refine w_cond_f rfl ?_|refine w_skip ?_)
  ·have hr:(0:Int)≤E.role:=by assumption
   have lx3:=hX3.1
   refine w_store rfl rfl hX3 rfl rfl (by decide) (by simp) fun h3 hX4 hE4 hn4=>?_
   replace hX4:Own h3 x [c.m0,c.m1,c.m2,c.m3,c.fr,c.ef,.int .i64 T.self,.int .i64 (wrapK .i64 (IntKind.i64.wrap (T.next - spawns (T.effs.take j)) - Int.ofNat 1)),.int .i64 T.used,.int .u8 T.over,.int .i64 T.trap,.int .i64 T.role,c.st,c.fp]:=hX4
   clear hX3 hX'
   repeat' (first|refine w_reg ?_|refine w_e ?_|refine w_addN rfl rfl (by omega) ?_|refine w_opk rfl rfl ?_)
   refine ⟨hje,⟨_,_,_,rfl⟩,?_,hE3.trans hE4⟩
   rw [if_pos hr]
   have e2:wrapK .i64 (IntKind.i64.wrap (T.next - spawns (T.effs.take j)) - Int.ofNat 1)=IntKind.i64.wrap (T.next - ((spawns (T.effs.take j)+1:Nat):Int)):=by
    rw [wrapK_eq]
    have:(Int.ofNat 1)=1:=rfl
    rw [this,wrap_pred]
    congr 1
    omega
   rwa [e2] at hX4
  ·have hr:E.role<(0:Int):=by assumption
   refine ⟨hje,⟨_,_,_,rfl⟩,?_,hE3⟩
   rw [if_neg (by omega)]
   exact hX3
 ·have hj1:c.le.length≤j:=by assumption
  rw [List.take_of_length_le (by omega)] at hX'
  refine w_store rfl rfl hX' rfl rfl (by decide) (by simp) fun h3 hX3 hE3 hn3=>?_
  replace hX3:Own h3 x [c.m0,c.m1,c.m2,c.m3,c.fr,c.ef,.int .i64 T.self,.int .i64 (IntKind.i64.wrap (T.next - spawns T.effs)),.int .i64 T.used,.int .u8 4,.int .i64 T.trap,.int .i64 T.role,c.st,c.fp]:=hX3
  clear hX'
  repeat' (first|refine w_opk rfl rfl ?_)
  refine w_store rfl rfl hX3 rfl rfl (by decide) (by simp) fun h4 hX4 hE4 hn4=>?_
  replace hX4:Own h4 x [c.m0,c.m1,c.m2,c.m3,c.fr,c.ef,.int .i64 T.self,.int .i64 (IntKind.i64.wrap (T.next - spawns T.effs)),.int .i64 T.used,.int .u8 4,.int .i64 n,.int .i64 T.role,c.st,c.fp]:=hX4
  clear hX3
  repeat' (first|refine w_opk rfl rfl ?_)
  refine w_store rfl rfl hX4 rfl rfl (by decide) (by simp) fun h5 hX5 hE5 hn5=>?_
  replace hX5:Own h5 x [c.m0,c.m1,c.m2,c.m3,.nils,c.ef,.int .i64 T.self,.int .i64 (IntKind.i64.wrap (T.next - spawns T.effs)),.int .i64 T.used,.int .u8 4,.int .i64 n,.int .i64 T.role,c.st,c.fp]:=hX5
  clear hX4
  repeat' (first|refine w_opk rfl rfl ?_)
  refine w_store rfl rfl hX5 rfl rfl (by decide) (by simp) fun h6 hX6 hE6 hn6=>?_
  replace hX6:Own h6 x [c.m0,c.m1,c.m2,c.m3,.nils,.nils,.int .i64 T.self,.int .i64 (IntKind.i64.wrap (T.next - spawns T.effs)),.int .i64 T.used,.int .u8 4,.int .i64 n,.int .i64 T.role,c.st,c.fp]:=hX6
  clear hX5
  repeat' (first|refine w_e ?_|refine w_rt rfl ?_)
  have hX:=hEx'.trans (((hE3.trans hE4).trans hE5).trans hE6)
  exact ⟨_,_,m.trap hX hX6,labN_old,Keep.of hX m.x0⟩
theorem endM_ok (hO:OffMc O) {hb h0:Heap} {L:Lab} {x:Nat} {M:ModA} {T:Trn} {c:MC} {how:Int} (m:Mac hb L h0 x M T c) :
  WPc tab.get O 245 [.ptr x 0 0 14,.int .u8 how] h0 (fun _ h'=>Mac hb (labN L h0 [] 0) h' x M (endT T how) { c with fr:=.nils,lf:=[] }∧Keep L h0 h'):=by
 refine (end_ok hO.en (c0:=c.m0) (c1:=c.m1) (c2:=c.m2) (c3:=c.m3) (vf:=c.fr) (ve:=c.ef) (vs:=c.st) (fp:=c.fp) m.own).mono fun _ h' ⟨k1,k2⟩=>⟨m.done k2 k1,Keep.of k2 m.x0⟩
theorem putM_ok (hO:OffMc O) {hb h0:Heap} {L:Lab} {x:Nat} {M:ModA} {T:Trn} {c:MC} {fs:List Frm} {f:Frm} {v:Val} {cv:List V} (m:Mac hb L h0 x M T c) (hT:T.frames=fs++[f]) (hp:c.fp=slotP c.fr fs.length) (hv:VaR (fun i=>L i=0) h0 v cv) (hst:f.stack.length≤200) (hn:I64 T.next) (he:T.effs.length≤1000000) :
  WPc tab.get O 192 [.ptr x 0 0 14,.agg cv] h0 (fun _ h'=>∃ L' c',Mac hb L' h' x M (putT T fs f v) c'∧LabE L h0 L'∧Keep L h0 h'∧(f.stack.length<200→c'.fr=c.fr∧c'.fp=c.fp)):=by
 obtain ⟨vv,stk,lv,ls,hk,hck,h1,h2,h3,h4,h5,h6,d1,d2,d3,d4,d5⟩:=m.top hT
 have hll:=h4.len
 have hsh:=hv.shape
 by_cases hl:f.stack.length<200
 ·have hXp:nth (c.cells T) 13=some (slotP c.fr fs.length):=by rw [← hp];rfl
  refine (put_ok (X:=[]) hO.pu m.own rfl hXp m.fr hk hck h3 (by omega) hsh.1 hsh.2 d1 d2 d3).mono fun _ h' ⟨stk',k1,k2,k3,k4⟩=>?_
  have hL:LabE L h0 (labN L h0 (slIds stk') (2 * fs.length+5)):=labN_old
  have hs:∀ j∈slIds c.fr++slIds stk,L j≠0:=fun j hj=>by
   rcases List.mem_append.1 hj with hj | hj
   ·have:=m.frl j hj;omega
   ·have:=h6 j hj;omega
  have hlist:VasR (fun i=>labN L h0 (slIds stk') (2 * fs.length+5) i=0) h' (f.stack++[v]) (ls++[cv]):=by
   refine (h4.ext k3 (fun j hj hm=>hs j hm hj) fun j hj hl=>by rw [hL j hl];exact hj).append (VasR.cons (hv.ext k3 (fun j hj hm=>hs j hm hj) fun j hj hl=>by rw [hL j hl];exact hj) (VasR.nil _ _))
  refine ⟨_,{ c with lf:=c.lf.set fs.length [.int .i64 (.ofNat f.fn),.int .i64 (.ofNat f.at_),vv,stk'] },?_,hL,Keep.of k3 hs,fun _=>⟨rfl,rfl⟩⟩
  have:=m.stack hT h1 h2 h5 h6 k3 k1 k2 hlist k4
  unfold putT
  rw [if_neg (by omega)]
  exact this
 ·have hw:withF T fs f=T:=by unfold withF;rw [← hT]
  have hpt:putT T fs f v=trapT T 9:=by unfold putT;rw [if_pos (by omega),hw]
  rw [hpt]
  refine w_fn' (hO.pu _ _) rfl rfl (by simp only [c192,initV,nth] <;> rfl) ?_
  refine w_seq (w_reg (w_box rfl hsh.1 hsh.2 fun iV h1' hV hiV hE1=>?_))
  have m1:=m.ext0 hE1
  have hX13:At h1' (.ptr x (0+13) 0 14) [slotP c.fr fs.length]:=at13 m1.own rfl (by rw [← hp];rfl)
  have hA1:=slot_at m1.fr.rs hk
  rw [hck] at hA1
  have rS:=h3.rs.ext0 hE1
  repeat' (first|refine w_seq ?_|refine w_reg ?_|refine w_e ?_|refine w_opk rfl rfl ?_)
  refine w_load1 (c:=[]) rfl hX13 rfl ?_
  skip
  refine w_nilck rfl hA1 ?_
  refine w_fadr rfl hA1 rfl fun hA3=>?_
  refine w_load1 (c:=[]) rfl hA3 rfl ?_
  repeat' (first|refine w_seq ?_|refine w_reg ?_|refine w_e ?_|refine w_len rfl (by assumption) ?_|refine w_geqN rfl rfl (fun hc=>?_) (fun hc=>?_)|refine w_opk rfl rfl ?_|refine w_cond_t rfl ?_|refine w_cond_f rfl ?_|refine w_skip ?_)
  ·refine w_call rfl ((trapM_ok hO m1 hn he).mono fun _ h2' ⟨L',c',q1,q2,q3⟩=>?_)
   repeat' (first|refine w_e ?_|refine w_ret ?_|refine w_rt rfl ?_)
   exact ⟨L',c',q1,labN_old.trans q2 hE1.1,(Keep.ext0 hE1).trans labN_old q3,fun h=>absurd h hl⟩
  ·exact absurd (show ls.length<200 by assumption) (by omega)
theorem takeM_ok (hO:OffMc O) {hb h0:Heap} {L:Lab} {x n:Nat} {M:ModA} {T:Trn} {c:MC} {fs:List Frm} {f:Frm} (m:Mac hb L h0 x M T c) (hT:T.frames=fs++[f]) (hp:c.fp=slotP c.fr fs.length) (hst:f.stack.length≤200) (hnl:n≤f.stack.length) :
  WPc tab.get O 193 [.ptr x 0 0 14,.int .i64 (.ofNat n)] h0 (fun r h'=>∃ v lv L' c',r=.tuple [v,.bool true]∧Ow h' 4 v lv∧(∀ i∈slIds v,L' i=0)∧VasR (fun i=>L' i=0) h' (offF f n) lv∧Mac hb L' h' x M (withF T fs (cutF f n)) c'∧LabE L h0 L'∧Keep L h0 h'∧c'.fr=c.fr∧c'.fp=c.fp):=by
 obtain ⟨vv,stk,lv,ls,hk,hck,h1,h2,h3,h4,h5,h6,d1,d2,d3,d4,d5⟩:=m.top hT
 have hll:=h4.len
 have hXp:nth (c.cells T) 13=some (slotP c.fr fs.length):=by rw [← hp];rfl
 refine (take_ok hO.ta hO.cl m.own rfl hXp m.fr hk hck h3 (by omega) (by omega) d1 d2 d3).mono fun _ h' ⟨v,stk',e,k1,k2,k3,k4,k5,k6⟩=>?_
 have hL:LabE L h0 (labN L h0 (slIds stk') (2 * fs.length+5)):=labN_old
 have hs:∀ j∈slIds c.fr,L j≠0:=fun j hj=>by have:=m.frl j hj;omega
 have hstk:VasR (fun i=>labN L h0 (slIds stk') (2 * fs.length+5) i=0) h' f.stack ls:=h4.ext k5 (fun j hj hm=>hs j hm hj) fun j hj hl=>by rw [hL j hl];exact hj
 have hm:=m.stack (l:=f.stack.take (f.stack.length - n)) (stk:=stk) hT h1 h2 h5 h6 (k5.mono fun j hj=>by simp [hj]) k3 k4 (by rw [hll];exact hstk.take _) fun i hi=>.inl (k6 i hi)
 refine ⟨v,_,_,{ c with lf:=c.lf.set fs.length [.int .i64 (.ofNat f.fn),.int .i64 (.ofNat f.at_),vv,stk'] },e,k1,fun i hi=>labN_new (k2 i hi) fun hm=>?_,?_,hm,hL,Keep.of k5 hs,rfl,rfl⟩
 ·have:=k2 i hi
  have:=h3.rs.lt i (k6 i hm)
  omega
 ·unfold offF
  rw [hll]
  exact hstk.drop _
theorem takeM_trap (hO:OffMc O) {hb h0:Heap} {L:Lab} {x n:Nat} {M:ModA} {T:Trn} {c:MC} {fs:List Frm} {f:Frm} (m:Mac hb L h0 x M T c) (hT:T.frames=fs++[f]) (hp:c.fp=slotP c.fr fs.length) (hst:f.stack.length≤200) (hnl:f.stack.length<n) (hnb:n<9223372036854775808) (hn:I64 T.next) (he:T.effs.length≤1000000) :
  WPc tab.get O 193 [.ptr x 0 0 14,.int .i64 (.ofNat n)] h0 (fun r h'=>r=.tuple [.nils,.bool false]∧Goes hb L h0 x M (trapT T 9) h'):=by
 obtain ⟨vv,stk,lv,ls,hk,hck,h1,h2,h3,h4,h5,h6,d1,d2,d3,d4,d5⟩:=m.top hT
 have hll:=h4.len
 refine w_fn' (hO.ta _ _) rfl rfl (by simp only [c193,initV,nth] <;> rfl) ?_
 have hX13:At h0 (.ptr x (0+13) 0 14) [slotP c.fr fs.length]:=at13 m.own rfl (by rw [← hp];rfl)
 have hA1:=slot_at m.fr.rs hk
 rw [hck] at hA1
 have rS:=h3.rs
 have hw:IntKind.i64.wrap (Int.ofNat ls.length - Int.ofNat n)<0:=by
  have e1:Int.ofNat ls.length=(ls.length:Int):=rfl
  have e2:Int.ofNat n=(n:Int):=rfl
  rw [wrap_i64_of (by omega) (by omega)]
  omega
 repeat' (first|refine w_seq ?_|refine w_reg ?_|refine w_e ?_|refine w_opk rfl rfl ?_)
 refine w_load1 (c:=[]) rfl hX13 rfl ?_
 refine w_nilck rfl hA1 ?_
 refine w_fadr rfl hA1 rfl fun hA3=>?_
 refine w_load1 (c:=[]) rfl hA3 rfl ?_
 refine w_len rfl rS ?_
 refine w_opk rfl rfl ?_
 refine w_subW rfl rfl ?_
 generalize IntKind.i64.wrap (Int.ofNat ls.length - Int.ofNat n)=y at *
 repeat' (first|refine w_seq ?_|refine w_reg ?_|refine w_e ?_|refine w_lss rfl rfl (fun hc=>?_) (fun hc=>?_)|refine w_opk rfl rfl ?_|refine w_cond_t rfl ?_|refine w_cond_f rfl ?_|refine w_skip ?_)
 ·refine w_call rfl ((trapM_ok hO m hn he).mono fun _ h2' q=>?_)
  repeat' (first|refine w_seq ?_|refine w_reg ?_|refine w_e ?_|refine w_opk rfl rfl ?_|refine w_ret ?_|refine w_rt rfl ?_)
  exact ⟨rfl,q⟩
 all_goals exact absurd hw (Int.not_lt.2 (by assumption))
theorem toldM_ok (hO:OffMc O) {hb h0:Heap} {L:Lab} {x:Nat} {M:ModA} {T:Trn} {c:MC} {fs:List Frm} {f:Frm} {r:Val×Int} {cv:List V} (m:Mac hb L h0 x M T c) (hT:T.frames=fs++[f]) (hp:c.fp=slotP c.fr fs.length) (hv:VaR (fun i=>L i=0) h0 r.1 cv) (hst:f.stack.length≤200) (hn:I64 T.next) (he:T.effs.length≤1000000) :
  WPc tab.get O 194 [.ptr x 0 0 14,.agg cv,.int .i64 r.2] h0 (fun _ h'=>Goes hb L h0 x M (toldT T fs f r) h'):=by
 obtain ⟨v,t⟩:=r
 have hsh:=hv.shape
 have hw:withF T fs f=T:=by unfold withF;rw [← hT]
 refine w_fn' (hO.to _ _) rfl rfl (by simp only [c194,initV,nth] <;> rfl) ?_
 refine w_seq (w_reg (w_box rfl hsh.1 hsh.2 fun iV h1' hV hiV hE1=>?_))
 replace hV:Own h1' iV cv:=hV
 have m1:=m.ext0 hE1
 have hv1:VaR (fun i=>labN L h0 [] 0 i=0) h1' v cv:=hv.ext hE1 (by simp) fun j hj hl=>by rw [labN_old j hl];exact hj
 by_cases ht:t=0
 ·subst ht
  unfold toldT
  rw [if_pos rfl]
  repeat' (first|refine w_seq ?_|refine w_reg ?_|refine w_e ?_|refine w_opk rfl rfl ?_|refine w_cond_f rfl ?_|refine w_skip ?_)
  refine w_loadA rfl (hV.at hsh.1) (by rw [hsh.1];rfl) ?_
  rw [show List.take 4 cv=cv from List.take_of_length_le (by omega)]
  refine w_call rfl ((putM_ok hO m1 hT hp hv1 hst hn he).mono fun _ h2' ⟨L',c',q1,q2,q3,_⟩=>?_)
  repeat' (first|refine w_e ?_|refine w_rt rfl ?_)
  exact ⟨L',c',q1,labN_old.trans q2 hE1.1,(Keep.ext0 hE1).trans labN_old q3⟩
 ·unfold toldT
  rw [if_neg ht,hw]
  repeat' (first|refine w_seq ?_|refine w_reg ?_|refine w_e ?_|refine w_neq rfl rfl (fun hc=>?_) (fun hc=>?_)|refine w_opk rfl rfl ?_|refine w_cond_t rfl ?_|refine w_cond_f rfl ?_|refine w_skip ?_)
  ·refine w_call rfl ((trapM_ok hO m1 hn he).mono fun _ h2' ⟨L',c',q1,q2,q3⟩=>?_)
   repeat' (first|refine w_e ?_|refine w_ret ?_|refine w_rt rfl ?_)
   exact ⟨L',c',q1,labN_old.trans q2 hE1.1,(Keep.ext0 hE1).trans labN_old q3⟩
  all_goals exact absurd (show t=0 by assumption) ht
end AmT
namespace AmT
open Go Am
set_option maxRecDepth 100000
set_option maxHeartbeats 4000000
variable {O:CallF}
structure OffDo (O:CallF):Prop extends OffMc O where
 d:∀ a h,O 130 a h=none
structure Fair (T:Trn) (f:Frm):Prop where
 nx:I64 T.next
 ef:T.effs.length≤1000000
 st:f.stack.length≤200
theorem dconst_ok (hO:OffDo O) {hb h0:Heap} {L:Lab} {x:Nat} {M:ModA} {T:Trn} {c:MC} {fs:List Frm} {f:Frm} {k:Nat} {b:Int} {v:Val} (m:Mac hb L h0 x M T c) (hT:T.frames=fs++[f]) (hp:c.fp=slotP c.fr fs.length) (hf:Fair T f) (hc:M.consts[k]? = some v) :
  WPc tab.get O 130 [.ptr x 0 0 14,.agg (insC ⟨1,Int.ofNat k,b⟩)] h0 (fun _ h'=>Goes hb L h0 x M (putT T fs f v) h'):=by
 refine w_fn' (hO.d _ _) rfl rfl (by simp only [c130,initV,nth] <;> rfl) ?_
 refine w_seq (w_reg (w_box rfl rfl rfl fun i2 h1 hI hi2 hE1=>?_))
 replace hI:Own h1 i2 [.int .u8 1,.int .i64 (.ofNat k),.int .i64 b]:=hI
 have m1:=m.ext0 hE1
 have hX:Own h1 x [c.m0,c.m1,c.m2,c.m3,c.fr,c.ef,.int .i64 T.self,.int .i64 T.next,.int .i64 T.used,.int .u8 T.over,.int .i64 T.trap,.int .i64 T.role,c.st,c.fp]:=m1.own
 obtain ⟨cs,ts,fns,rs,lc,lfn,lr,e,r1,v1,r2,r3,a3,r4,a4⟩:=m1.md
 simp only [List.cons.injEq] at e
 obtain ⟨e0,e1,e2,e3,_⟩:=e
 have hk:k<M.consts.length:=(List.getElem?_eq_some_iff.1 hc).1
 have hvk:M.consts[k]=v:=(List.getElem?_eq_some_iff.1 hc).2
 have hlc:=v1.len
 have hk2:k<lc.length:=by omega
 have va:=v1.get hk hk2
 rw [hvk] at va
 have hsh:=va.shape
 have rm0:=r1.1
 rw [← e0] at rm0
 repeat' (first|refine w_seq ?_|refine w_reg ?_|refine w_e ?_|refine w_rf rfl (by assumption) (by rfl) (by rfl) (by rfl) ?_)
 refine w_block ?_
 repeat' (first|refine w_seq ?_|refine w_reg ?_|refine w_e ?_|refine w_rf rfl (by assumption) (by rfl) (by rfl) (by rfl) ?_|refine w_opk rfl rfl ?_|refine w_cond_t rfl ?_)
 refine w_iadrS rfl rfl rm0 hk2 ?_
 refine w_loadA rfl (slot_at rm0 hk2) (by rw [hsh.1];rfl) ?_
 rw [show List.take 4 lc[k]=lc[k] from List.take_of_length_le (by omega)]
 refine w_call rfl ((putM_ok hO.toOffMc m1 hT hp va hf.st hf.nx hf.ef).mono fun _ h2 ⟨L',c',q1,q2,q3,_⟩=>?_)
 repeat' (first|refine w_e ?_|refine w_rt rfl ?_)
 exact ⟨L',c',q1,labN_old.trans q2 hE1.1,(Keep.ext0 hE1).trans labN_old q3⟩
theorem dload_ok (hO:OffDo O) {hb h0:Heap} {L:Lab} {x:Nat} {M:ModA} {T:Trn} {c:MC} {fs:List Frm} {f:Frm} {k:Nat} {b:Int} {v:Val} (m:Mac hb L h0 x M T c) (hT:T.frames=fs++[f]) (hp:c.fp=slotP c.fr fs.length) (hf:Fair T f) (hc:f.vars[k]? = some v) :
  WPc tab.get O 130 [.ptr x 0 0 14,.agg (insC ⟨2,Int.ofNat k,b⟩)] h0 (fun _ h'=>Goes hb L h0 x M (putT T fs f v) h'):=by
 refine w_fn' (hO.d _ _) rfl rfl (by simp only [c130,initV,nth] <;> rfl) ?_
 refine w_seq (w_reg (w_box rfl rfl rfl fun i2 h1 hI hi2 hE1=>?_))
 replace hI:Own h1 i2 [.int .u8 2,.int .i64 (.ofNat k),.int .i64 b]:=hI
 have m1:=m.ext0 hE1
 obtain ⟨vv,stk,lv,ls,hkk,hck,o1,w1,o2,w2,_⟩:=m1.top hT
 have hX13:At h1 (.ptr x (0+13) 0 14) [slotP c.fr fs.length]:=at13 m1.own rfl (by rw [← hp];rfl)
 have hA:=slot_at m1.fr.rs hkk
 rw [hck] at hA
 have hk:k<f.vars.length:=(List.getElem?_eq_some_iff.1 hc).1
 have hvk:f.vars[k]=v:=(List.getElem?_eq_some_iff.1 hc).2
 have hlc:=w1.len
 have hk2:k<lv.length:=by omega
 have va:=w1.get hk hk2
 rw [hvk] at va
 have hsh:=va.shape
 repeat' (first|refine w_seq ?_|refine w_reg ?_|refine w_e ?_|refine w_rf rfl (by assumption) (by rfl) (by rfl) (by rfl) ?_)
 refine w_block ?_
 repeat' (first|refine w_seq ?_|refine w_reg ?_|refine w_e ?_|refine w_opk rfl rfl ?_|refine w_cond_t rfl ?_|refine w_cond_f rfl ?_)
 refine w_load1 (c:=[]) rfl hX13 rfl ?_
 refine w_nilck rfl hA ?_
 refine w_fadr rfl hA rfl fun hA2=>?_
 refine w_load1 rfl hA2 rfl ?_
 repeat' (first|refine w_rf rfl (by assumption) (by rfl) (by rfl) (by rfl) ?_)
 refine w_iadrS rfl rfl o1.rs hk2 ?_
 refine w_loadA rfl (slot_at o1.rs hk2) (by rw [hsh.1];rfl) ?_
 rw [show List.take 4 lv[k]=lv[k] from List.take_of_length_le (by omega)]
 refine w_call rfl ((putM_ok hO.toOffMc m1 hT hp va hf.st hf.nx hf.ef).mono fun _ h2 ⟨L',c',q1,q2,q3,_⟩=>?_)
 repeat' (first|refine w_e ?_|refine w_rt rfl ?_)
 exact ⟨L',c',q1,labN_old.trans q2 hE1.1,(Keep.ext0 hE1).trans labN_old q3⟩
theorem dself_ok (hO:OffDo O) {hb h0:Heap} {L:Lab} {x:Nat} {M:ModA} {T:Trn} {c:MC} {fs:List Frm} {f:Frm} {a b:Int} (m:Mac hb L h0 x M T c) (hT:T.frames=fs++[f]) (hp:c.fp=slotP c.fr fs.length) (hf:Fair T f) :
  WPc tab.get O 130 [.ptr x 0 0 14,.agg (insC ⟨21,a,b⟩)] h0 (fun _ h'=>Goes hb L h0 x M (putT T fs f (actV T.self)) h'):=by
 refine w_fn' (hO.d _ _) rfl rfl (by simp only [c130,initV,nth] <;> rfl) ?_
 refine w_seq (w_reg (w_box rfl rfl rfl fun i2 h1 hI hi2 hE1=>?_))
 replace hI:Own h1 i2 [.int .u8 21,.int .i64 a,.int .i64 b]:=hI
 have m1:=m.ext0 hE1
 have hX:Own h1 x [c.m0,c.m1,c.m2,c.m3,c.fr,c.ef,.int .i64 T.self,.int .i64 T.next,.int .i64 T.used,.int .u8 T.over,.int .i64 T.trap,.int .i64 T.role,c.st,c.fp]:=m1.own
 repeat' (first|refine w_seq ?_|refine w_reg ?_|refine w_e ?_|refine w_rf rfl (by assumption) (by rfl) (by rfl) (by rfl) ?_)
 refine w_block ?_
 repeat' (first|refine w_seq ?_|refine w_reg ?_|refine w_e ?_|refine w_fl rfl (by assumption) (by rfl) (by rfl) (by rfl) ?_|refine w_opk rfl rfl ?_|refine w_cond_t rfl ?_|refine w_cond_f rfl ?_)
 refine w_build [.int .u8 5,.int .i64 T.self,.str [],.nils] rfl rfl ?_
 refine w_call rfl ((putM_ok hO.toOffMc m1 hT hp (VaR.num 5 T.self) hf.st hf.nx hf.ef).mono fun _ h2 ⟨L',c',q1,q2,q3,_⟩=>?_)
 repeat' (first|refine w_e ?_|refine w_rt rfl ?_)
 exact ⟨L',c',q1,labN_old.trans q2 hE1.1,(Keep.ext0 hE1).trans labN_old q3⟩
theorem djump_ok (hO:OffDo O) {hb h0:Heap} {L:Lab} {x:Nat} {M:ModA} {T:Trn} {c:MC} {fs:List Frm} {f:Frm} {k:Nat} {b:Int} (m:Mac hb L h0 x M T c) (hT:T.frames=fs++[f]) (hp:c.fp=slotP c.fr fs.length) :
  WPc tab.get O 130 [.ptr x 0 0 14,.agg (insC ⟨27,Int.ofNat k,b⟩)] h0 (fun _ h'=>Goes hb L h0 x M (withF T fs { f with at_:=k }) h'):=by
 refine w_fn' (hO.d _ _) rfl rfl (by simp only [c130,initV,nth] <;> rfl) ?_
 refine w_seq (w_reg (w_box rfl rfl rfl fun i2 h1 hI hi2 hE1=>?_))
 replace hI:Own h1 i2 [.int .u8 27,.int .i64 (.ofNat k),.int .i64 b]:=hI
 have m1:=m.ext0 hE1
 obtain ⟨vv,stk,lv,ls,hkk,hck,o1,w1,o2,w2,g1,g2,d1,_⟩:=m1.top hT
 have hX13:At h1 (.ptr x (0+13) 0 14) [slotP c.fr fs.length]:=at13 m1.own rfl (by rw [← hp];rfl)
 have hA:=slot_at m1.fr.rs hkk
 rw [hck] at hA
 repeat' (first|refine w_seq ?_|refine w_reg ?_|refine w_e ?_|refine w_rf rfl (by assumption) (by rfl) (by rfl) (by rfl) ?_)
 refine w_block ?_
 repeat' (first|refine w_seq ?_|refine w_reg ?_|refine w_e ?_|refine w_opk rfl rfl ?_|refine w_cond_t rfl ?_|refine w_cond_f rfl ?_)
 refine w_load1 (c:=[]) rfl hX13 rfl ?_
 repeat' (first|refine w_rf rfl (by assumption) (by rfl) (by rfl) (by rfl) ?_)
 refine w_nilck rfl hA ?_
 refine w_fadr rfl hA rfl fun hA2=>?_
 refine w_storeS rfl rfl m1.fr hkk rfl (by decide) rfl fun h2 hF2 hE2 hn2=>?_
 rw [hck] at hF2
 replace hF2:Ow h2 4 c.fr (c.lf.set fs.length [.int .i64 (.ofNat f.fn),.int .i64 (.ofNat k),vv,stk]):=hF2
 repeat' (first|refine w_e ?_|refine w_rt rfl ?_)
 have hz:∀ j,labN L h0 [] 0 j=0→j∉slIds c.fr:=fun j hj hm=>by have:=m1.frl j hm;omega
 have hm:=m1.stack (l:=f.stack) (at_:=k) (stk:=stk) (stk':=stk) hT o1 w1 g1 g2 (hE2.mono fun j hj=>by simp [hj]) hF2 (o2.ext hE2 fun j hj hm=>d1 j hj hm) (w2.ext hE2 hz fun j hj hl=>by rw [labN_old j hl];exact hj) fun i hi=>.inl hi
 exact ⟨_,_,hm,labN_old.trans labN_old hE1.1,(Keep.ext0 hE1).trans labN_old (Keep.of hE2 m1.frN)⟩
theorem head_of {α:Type} {l:List α} {d:α} (h:l.length=1):∃ a,l=[a]∧l.headD d=a:=by
 match l,h with
 | [a],_=>exact ⟨a,rfl,rfl⟩
theorem dstore_ok (hO:OffDo O) {hb h0:Heap} {L:Lab} {x:Nat} {M:ModA} {T:Trn} {c:MC} {fs:List Frm} {f:Frm} {k:Nat} {b:Int} (m:Mac hb L h0 x M T c) (hT:T.frames=fs++[f]) (hp:c.fp=slotP c.fr fs.length) (hf:Fair T f) (hk:k<f.vars.length) :
  WPc tab.get O 130 [.ptr x 0 0 14,.agg (insC ⟨3,Int.ofNat k,b⟩)] h0 (fun _ h'=>Goes hb L h0 x M (if f.stack.length<1 then trapT T 9 else withF T fs { cutF f 1 with vars:=f.vars.set k ((offF f 1).headD zeroV) }) h'):=by
 refine w_fn' (hO.d _ _) rfl rfl (by simp only [c130,initV,nth] <;> rfl) ?_
 refine w_seq (w_reg (w_box rfl rfl rfl fun i2 h1 hI hi2 hE1=>?_))
 replace hI:Own h1 i2 [.int .u8 3,.int .i64 (.ofNat k),.int .i64 b]:=hI
 have m1:=m.ext0 hE1
 have hl2:labN L h0 [] 0 i2=0:=labN_new hi2 (by simp)
 have hst:=hf.st
 repeat' (first|refine w_seq ?_|refine w_reg ?_|refine w_e ?_|refine w_rf rfl (by assumption) (by rfl) (by rfl) (by rfl) ?_)
 refine w_block ?_
 repeat' (first|refine w_seq ?_|refine w_reg ?_|refine w_e ?_|refine w_opk rfl rfl ?_|refine w_cond_t rfl ?_|refine w_cond_f rfl ?_)
 by_cases hs:f.stack.length<1
 ·rw [if_pos hs]
  refine w_callA [.ptr x 0 0 14,.int .i64 (.ofNat 1)] rfl ((takeM_trap hO.toOffMc m1 hT hp hst hs (by decide) hf.nx hf.ef).mono fun _ h2 ⟨e,L',c',q1,q2,q3⟩=>?_)
  subst e
  repeat' (first|refine w_seq ?_|refine w_reg ?_|refine w_e ?_|refine w_opk rfl rfl ?_|refine w_cond_f rfl ?_|refine w_skip ?_|refine w_rt rfl ?_)
  exact ⟨L',c',q1,labN_old.trans q2 hE1.1,(Keep.ext0 hE1).trans labN_old q3⟩
 ·rw [if_neg hs]
  refine w_callA [.ptr x 0 0 14,.int .i64 (.ofNat 1)] rfl ((takeM_ok hO.toOffMc m1 hT hp hst (by omega)).mono fun _ h2 ⟨v,tl,L',c',e,o,ol,tv,m2,lE,kp,ef,ep⟩=>?_)
  subst e
  have hI2:=kp.own hI hl2
  have hp2:c'.fp=slotP c'.fr fs.length:=by rw [ef,ep];exact hp
  obtain ⟨vv,stk,lv,ls,hkk,hck,o1,w1,o2,w2,g1,g2,d1,d2,d3,d4,d5⟩:=m2.top (fs:=fs) (f:=cutF f 1) rfl
  have hX13:At h2 (.ptr x (0+13) 0 14) [slotP c'.fr fs.length]:=at13 m2.own rfl (by rw [← hp2];rfl)
  have hA:=slot_at m2.fr.rs hkk
  rw [hck] at hA
  have hlo:(offF f 1).length=1:=by unfold offF;rw [List.length_drop];omega
  obtain ⟨a,ea,eh⟩:=head_of (d:=zeroV) hlo
  rw [ea] at tv
  unfold VasR at tv
  obtain ⟨ca,tl',rfl,ta,tv'⟩:=tv
  unfold VasR at tv'
  subst tv'
  have hsh:=ta.shape
  have hvl:=w1.len
  have hk2:k<lv.length:=by rw [hvl];exact hk
  rw [eh]
  repeat' (first|refine w_seq ?_|refine w_reg ?_|refine w_e ?_|refine w_opk rfl rfl ?_|refine w_cond_t rfl ?_)
  refine w_load1 (c:=[]) rfl hX13 rfl ?_
  refine w_nilck rfl hA ?_
  refine w_fadr rfl hA rfl fun hA2=>?_
  refine w_load1 rfl hA2 rfl ?_
  repeat' (first|refine w_rf rfl (by assumption) (by rfl) (by rfl) (by rfl) ?_|refine w_opk rfl rfl ?_)
  refine w_iadrS (j:=0) rfl rfl o.rs (by simp) ?_
  refine w_loadA rfl (slot_at (j:=0) o.rs (by simp)) (by show Nat.ble 4 ca.length=true;rw [hsh.1];rfl) ?_
  rw [show List.take 4 [ca][0]=ca from List.take_of_length_le (by show ca.length≤4;omega)]
  refine w_setE rfl rfl (fun p=>rfl) o1 hk2 hsh.1 (by decide) hsh.2 fun p h3 hV hE3 hn3=>?_
  have hspl:splice lv[k] 0 (V.agg ca).cells=ca:=by
   have:=w2.shapes
   have hs1:=(w1.shapes _ (List.getElem_mem hk2)).1
   rw [splice]
   exact over_all (by show ca.length=_;omega)
  rw [hspl] at hV
  repeat' (first|refine w_e ?_|refine w_rt rfl ?_)
  have hm:=m2.vars (fs:=fs) (f:=cutF f 1) rfl hkk hck o1 w1 o2 w2 g1 g2 ta hE3 hV
  exact ⟨_,_,hm,(labN_old.trans lE hE1.1).trans labN_old (by have:=hE1.1;have:=kp.n;omega),((Keep.ext0 hE1).trans labN_old kp).trans (labN_old.trans lE hE1.1) (Keep.of hE3 fun j hj=>by have:=g1 j hj;omega)⟩
theorem dpop_ok (hO:OffDo O) {hb h0:Heap} {L:Lab} {x:Nat} {M:ModA} {T:Trn} {c:MC} {fs:List Frm} {f:Frm} {a b:Int} (m:Mac hb L h0 x M T c) (hT:T.frames=fs++[f]) (hp:c.fp=slotP c.fr fs.length) (hf:Fair T f) :
  WPc tab.get O 130 [.ptr x 0 0 14,.agg (insC ⟨32,a,b⟩)] h0 (fun _ h'=>Goes hb L h0 x M (if f.stack.length<1 then trapT T 9 else withF T fs (cutF f 1)) h'):=by
 refine w_fn' (hO.d _ _) rfl rfl (by simp only [c130,initV,nth] <;> rfl) ?_
 refine w_seq (w_reg (w_box rfl rfl rfl fun i2 h1 hI hi2 hE1=>?_))
 replace hI:Own h1 i2 [.int .u8 32,.int .i64 a,.int .i64 b]:=hI
 have m1:=m.ext0 hE1
 have hst:=hf.st
 repeat' (first|refine w_seq ?_|refine w_reg ?_|refine w_e ?_|refine w_rf rfl (by assumption) (by rfl) (by rfl) (by rfl) ?_)
 refine w_block ?_
 repeat' (first|refine w_seq ?_|refine w_reg ?_|refine w_e ?_|refine w_opk rfl rfl ?_|refine w_cond_t rfl ?_|refine w_cond_f rfl ?_)
 by_cases hs:f.stack.length<1
 ·rw [if_pos hs]
  refine w_callA [.ptr x 0 0 14,.int .i64 (.ofNat 1)] rfl ((takeM_trap hO.toOffMc m1 hT hp hst hs (by decide) hf.nx hf.ef).mono fun _ h2 ⟨e,L',c',q1,q2,q3⟩=>?_)
  subst e
  repeat' (first|refine w_e ?_|refine w_rt rfl ?_)
  exact ⟨L',c',q1,labN_old.trans q2 hE1.1,(Keep.ext0 hE1).trans labN_old q3⟩
 ·rw [if_neg hs]
  refine w_callA [.ptr x 0 0 14,.int .i64 (.ofNat 1)] rfl ((takeM_ok hO.toOffMc m1 hT hp hst (by omega)).mono fun _ h2 ⟨v,tl,L',c',e,o,ol,tv,m2,lE,kp,ef,ep⟩=>?_)
  subst e
  repeat' (first|refine w_e ?_|refine w_rt rfl ?_)
  exact ⟨L',c',m2,labN_old.trans lE hE1.1,(Keep.ext0 hE1).trans labN_old kp⟩
end AmT
namespace AmT
open Go Am
set_option maxRecDepth 100000
set_option maxHeartbeats 8000000
variable {O:CallF}
def TwoOk (O:CallF) (op:Int) (a b:Val):Prop:=∀ {Z:Nat→Prop} {h:Heap} {ca cb:List V},VaR Z h a ca→VaR Z h b cb→(∀ i,Z i→i<h.n)→
 WPc tab.get O 198 [.int .u8 op,.agg ca,.agg cb] h (fun r h'=>∃ cv,r=.tuple [.agg cv,.int .i64 (twoV op a b).2]∧VaR (fun i=>Z i∨h.n≤i) h' (twoV op a b).1 cv∧Ext h h')
theorem list2 {α:Type} {l:List α} {d:α} (h:l.length=2):∃ a b,l=[a,b]∧l.headD d=a∧(l.drop 1).headD d=b:=by
 match l,h with
 | [a,b],_=>exact ⟨a,b,rfl,rfl,rfl⟩
theorem _root_.Am.VaR.lt {L:Lab} {h:Heap} {a:Val} {c:List V} (v:VaR (fun i=>L i=0) h a c):VaR (fun i=>L i=0∧i<h.n) h a c:=
 v.ext (ExtX.refl _ _) (S:=[]) (by simp) fun j hj hl=>⟨hj,hl⟩
theorem _root_.Am.VaR.lab' {L:Lab} {h h':Heap} {a:Val} {c:List V} (v:VaR (fun i=>(L i=0∧i<h.n)∨h.n≤i) h' a c):VaR (fun i=>labN L h [] 0 i=0) h' a c:=
 v.ext (ExtX.refl _ _) (S:=[]) (by simp) fun j hj _=>by
  rcases hj with hj | hj
  ·rw [labN_old j hj.2];exact hj.1
  ·exact labN_new hj (by simp)
theorem dtwo_ok (hO:OffDo O) {hb h0:Heap} {L:Lab} {x:Nat} {M:ModA} {T:Trn} {c:MC} {fs:List Frm} {f:Frm} {op a b:Int} (m:Mac hb L h0 x M T c) (hT:T.frames=fs++[f]) (hp:c.fp=slotP c.fr fs.length) (hf:Fair T f) (ho:op=4∨op=5∨op=6∨op=7∨op=8∨op=11∨op=12∨op=13∨op=14∨op=15∨op=16∨op=17∨op=18)
  (h2:2≤f.stack.length→TwoOk O op ((offF f 2).headD zeroV) (((offF f 2).drop 1).headD zeroV)) :
  WPc tab.get O 130 [.ptr x 0 0 14,.agg (insC ⟨op,a,b⟩)] h0 (fun _ h'=>Goes hb L h0 x M (if f.stack.length<2 then trapT T 9 else toldT T fs (cutF f 2) (twoV op ((offF f 2).headD zeroV) (((offF f 2).drop 1).headD zeroV))) h'):=by
 refine w_fn' (hO.d _ _) rfl rfl (by simp only [c130,initV,nth] <;> rfl) ?_
 refine w_seq (w_reg (w_box rfl rfl rfl fun i2 h1 hI hi2 hE1=>?_))
 replace hI:Own h1 i2 [.int .u8 op,.int .i64 a,.int .i64 b]:=hI
 have m1:=m.ext0 hE1
 have hl2:labN L h0 [] 0 i2=0:=labN_new hi2 (by simp)
 have hst:=hf.st
 by_cases hs:f.stack.length<2
 ·rw [if_pos hs]
  rcases ho with rfl | rfl | rfl | rfl | rfl | rfl | rfl | rfl | rfl | rfl | rfl | rfl | rfl
  all_goals (repeat' (first|refine w_seq ?_|refine w_reg ?_|refine w_e ?_|refine w_rf rfl (by assumption) (by rfl) (by rfl) (by rfl) ?_))
  all_goals refine w_block ?_
  all_goals (repeat' (first|refine w_seq ?_|refine w_reg ?_|refine w_e ?_|refine w_opk rfl rfl ?_|refine w_cond_f rfl ?_))
  all_goals
   refine w_callA [.ptr x 0 0 14,.int .i64 (.ofNat 2)] rfl ((takeM_trap hO.toOffMc m1 hT hp hst hs (by decide) hf.nx hf.ef).mono fun _ h2 ⟨e,L',c',q1,q2,q3⟩=>?_)
   subst e
  all_goals (repeat' (first|refine w_seq ?_|refine w_reg ?_|refine w_e ?_|refine w_opk rfl rfl ?_|refine w_cond_f rfl ?_|refine w_skip ?_|refine w_rt rfl ?_))
  all_goals exact ⟨L',c',q1,labN_old.trans q2 hE1.1,(Keep.ext0 hE1).trans labN_old q3⟩
 ·rw [if_neg hs]
  have h2':TwoOk O op ((offF f 2).headD zeroV) (((offF f 2).drop 1).headD zeroV):=h2 (by omega)
  have hlo:(offF f 2).length=2:=by unfold offF;rw [List.length_drop];omega
  obtain ⟨va,vb,ea,eh,eh2⟩:=list2 (d:=zeroV) hlo
  rw [eh,eh2] at h2' ⊢
  rcases ho with rfl | rfl | rfl | rfl | rfl | rfl | rfl | rfl | rfl | rfl | rfl | rfl | rfl
  all_goals (repeat' (first|refine w_seq ?_|refine w_reg ?_|refine w_e ?_|refine w_rf rfl (by assumption) (by rfl) (by rfl) (by rfl) ?_))
  all_goals refine w_block ?_
  all_goals (repeat' (first|refine w_seq ?_|refine w_reg ?_|refine w_e ?_|refine w_opk rfl rfl ?_|refine w_cond_f rfl ?_))
  all_goals
   refine w_callA [.ptr x 0 0 14,.int .i64 (.ofNat 2)] rfl ((takeM_ok hO.toOffMc m1 hT hp hst (by omega)).mono fun _ h2 ⟨v,tl,L',c',e,o,ol,tv,m2,lE,kp,ef,ep⟩=>?_)
   subst e
   have hI2:=kp.own hI hl2
   have hp2:c'.fp=slotP c'.fr fs.length:=by rw [ef,ep];exact hp
   rw [ea] at tv
   unfold VasR at tv
   obtain ⟨ca,tl',rfl,ta,tv⟩:=tv
   unfold VasR at tv
   obtain ⟨cb,tl',rfl,tb,tv⟩:=tv
   unfold VasR at tv
   subst tv
   have hsa:=ta.shape
   have hsb:=tb.shape
   have l2:labN L' h2 [] 0 i2=0:=by
    rw [labN_old i2 hI2.1,lE i2 hI.1]
    exact hl2
  all_goals (repeat' (first|refine w_seq ?_|refine w_reg ?_|refine w_e ?_|refine w_rf rfl (by assumption) (by rfl) (by rfl) (by rfl) ?_|refine w_opk rfl rfl ?_|refine w_cond_t rfl ?_))
  all_goals
   refine w_iadrS (j:=0) rfl rfl o.rs (by simp) ?_
   refine w_loadA rfl (slot_at (j:=0) o.rs (by simp)) (by show Nat.ble 4 ca.length=true;rw [hsa.1];rfl) ?_
   rw [show List.take 4 [ca,cb][0]=ca from List.take_of_length_le (by show ca.length≤4;omega)]
  all_goals (repeat' (first|refine w_opk rfl rfl ?_))
  all_goals
   refine w_iadrS (j:=1) rfl rfl o.rs (by simp) ?_
   refine w_loadA rfl (slot_at (j:=1) o.rs (by simp)) (by show Nat.ble 4 cb.length=true;rw [hsb.1];rfl) ?_
   rw [show List.take 4 [ca,cb][1]=cb from List.take_of_length_le (by show cb.length≤4;omega)]
   refine w_callA _ rfl ((h2' ta.lt tb.lt (fun i hi=>hi.2)).mono fun _ h3 ⟨cv,e,tw,hE3⟩=>?_)
   subst e
   have m3:=m2.ext0 hE3
   have tw3:=tw.lab'
  all_goals (repeat' (first|refine w_opk rfl rfl ?_))
  all_goals
   refine w_callA _ rfl ((toldM_ok hO.toOffMc m3 (fs:=fs) (f:=cutF f 2) rfl hp2 tw3 (by unfold cutF;simp only [List.length_take];omega) hf.nx hf.ef).mono fun _ h4 ⟨L4,c4,q1,q2,q3⟩=>?_)
  all_goals (repeat' (first|refine w_e ?_|refine w_rt rfl ?_))
  all_goals exact ⟨L4,c4,q1,((labN_old.trans lE hE1.1).trans labN_old (((Keep.ext0 hE1).trans labN_old kp).n)).trans q2 (by have:=hE1.1;have:=kp.n;have:=hE3.1;omega),(((Keep.ext0 hE1).trans labN_old kp).trans (labN_old.trans lE hE1.1) (Keep.ext0 hE3)).trans ((labN_old.trans lE hE1.1).trans labN_old (((Keep.ext0 hE1).trans labN_old kp).n)) q3⟩
end AmT
namespace AmT
open Go Am
set_option maxRecDepth 100000
set_option maxHeartbeats 4000000
variable {O:CallF}
theorem slot_one {h:Heap} {v:V} {l:List (List V)} {j:Nat} (o:Ow h 4 v l) (hj:j<l.length):(slotP v j).one=true:=by
 rcases o.2 with rfl | ⟨id,off,len,ver,full,cs,low,rfl,hg⟩
 ·have:=o.1.1
  simp only [srcCells,Option.some.injEq,Prod.mk.injEq] at this
  omega
 ·rfl
def DoOk (O:CallF) (hb:Heap) (x:Nat) (M:ModA) (T:Trn) (fs:List Frm) (i:InsA) (T':Trn):Prop:=∀ {h:Heap} {L:Lab} {c:MC},Mac hb L h x M T c→c.fp=slotP c.fr fs.length→
 WPc tab.get O 130 [.ptr x 0 0 14,.agg (insC i)] h (fun _ h'=>Goes hb L h x M T' h')
theorem step_ok (hS:∀ a h,O 62 a h=none) {hb h0:Heap} {L:Lab} {x:Nat} {M:ModA} {T:Trn} {c:MC} {fs:List Frm} {f:Frm} {fn:FnA} {i:InsA} {T':Trn} (m:Mac hb L h0 x M T c) (hT:T.frames=fs++[f]) (hfn:M.fns[f.fn]? = some fn) (hi:fn.code[f.at_]? = some i) (hu:I64 T.used) (hat:f.at_<1000000) (hfl:fs.length<1000000)
  (hd:DoOk O hb x M { T with used:=IntKind.i64.wrap (T.used+1),frames:=fs++[{ f with at_:=f.at_+1 }] } fs i T') :
  WPc tab.get O 62 [.ptr x 0 0 14] h0 (fun _ h'=>Goes hb L h0 x M T' h'):=by
 refine w_fn' (hS _ _) rfl rfl (by simp only [c62,initV,nth] <;> rfl) ?_
 have hX:Own h0 x [c.m0,c.m1,c.m2,c.m3,c.fr,c.ef,.int .i64 T.self,.int .i64 T.next,.int .i64 T.used,.int .u8 T.over,.int .i64 T.trap,.int .i64 T.role,c.st,c.fp]:=m.own
 have hfr:=m.fr.rs
 have hlf:=m.fs.1
 have hlT:T.frames.length=fs.length+1:=by rw [hT];simp
 repeat' (first|refine w_seq ?_|refine w_reg ?_|refine w_fl rfl (by assumption) (by rfl) (by rfl) (by rfl) ?_|refine w_len rfl (by assumption) ?_|refine w_opq rfl rfl ?_)
 refine w_subN (b:=1) rfl (by rfl) (by omega) (by omega) ?_
 refine w_iadrS rfl rfl hfr (by omega) ?_
 rw [show c.lf.length - 1=fs.length by omega]
 have hone:=slot_one (j:=fs.length) m.fr (by omega)
 repeat' (first|refine w_opq rfl rfl ?_)
 refine w_store rfl rfl hX (by rw [V.cells1 hone];rfl) (by rw [V.cells1 hone];simp only [allOne,hone]) (by decide) (by simp) fun h1 k1 k2 k3=>?_
 rw [V.cells1 hone] at k1
 have m1:=m.nums (self:=T.self) (next:=T.next) (used:=T.used) (trap:=T.trap) (role:=T.role) k2 hone k1
 clear hfr hX k1
 have hX:Own h1 x [c.m0,c.m1,c.m2,c.m3,c.fr,c.ef,.int .i64 T.self,.int .i64 T.next,.int .i64 T.used,.int .u8 T.over,.int .i64 T.trap,.int .i64 T.role,c.st,slotP c.fr fs.length]:=m1.own
 obtain ⟨vv,stk,lv,ls,hkk,hck,o1,w1,o2,w2,g1,g2,d1,_⟩:=m1.top hT
 have hA:=slot_at m1.fr.rs hkk
 simp only at hkk hck
 rw [hck] at hA
 obtain ⟨cs,ts,fns,rs,lc,lfn,lr,e,r1,v1,r2,r3,a3,r4,a4⟩:=m1.md
 simp only [List.cons.injEq] at e
 obtain ⟨e0,e1,e2,e3,_⟩:=e
 have hk:f.fn<M.fns.length:=(List.getElem?_eq_some_iff.1 hfn).1
 have hk2:f.fn<lfn.length:=by have:=a3.1;omega
 obtain ⟨cv,ef,rc⟩:=a3.get hk2 hk
 rw [(List.getElem?_eq_some_iff.1 hfn).2] at ef rc
 have rm2:=r3.1
 rw [← e2] at rm2
 have hFn:=slot_at rm2 hk2
 rw [ef] at hFn
 have hat2:f.at_<(fn.code.map insC).length:=by rw [List.length_map];exact (List.getElem?_eq_some_iff.1 hi).1
 have hIn:=slot_at rc.1 hat2
 rw [List.getElem_map,(List.getElem?_eq_some_iff.1 hi).2] at hIn
 repeat' (first|refine w_seq ?_|refine w_reg ?_|refine w_e ?_|refine w_rf rfl (by assumption) (by rfl) (by rfl) (by rfl) ?_|refine w_opq rfl rfl ?_)
 refine w_nilck rfl hA ?_
 refine w_fadr rfl hA rfl fun hA0=>?_
 refine w_load1 rfl hA0 rfl ?_
 refine w_iadrS rfl rfl rm2 hk2 ?_
 refine w_fadr rfl hFn rfl fun hFn3=>?_
 refine w_load1 (c:=[]) rfl hFn3 rfl ?_
 repeat' (first|refine w_rf rfl (by assumption) (by rfl) (by rfl) (by rfl) ?_|refine w_opq rfl rfl ?_)
 refine w_nilck rfl hA ?_
 refine w_fadr rfl hA rfl fun hA1=>?_
 refine w_load1 rfl hA1 rfl ?_
 refine w_iadrS rfl rfl rc.1 hat2 ?_
 refine w_loadA rfl hIn rfl ?_
 refine w_alloc fun i1 h2 hI hi1 hE2=>?_
 refine w_store rfl rfl hI rfl rfl (by decide) (by decide) fun h3 hI3 y3 z3=>?_
 replace hI3:Own h3 i1 (insC i):=hI3
 have hE3:Ext h1 h3:=hE2.step y3 fun j hj=>by simp at hj;exact .inr (by omega)
 have m2:=m1.ext0 hE3
 have n1:=k2.1
 have n3:=hE3.1
 have n2:=hE2.1
 have hi3:=hI3.1
 clear hX hA hA0 hA1 hFn hFn3 hIn rm2 hfn hi o1 w1 o2 w2 g1 g2 d1 hck hkk hI y3 hE2
 have hX:Own h3 x [c.m0,c.m1,c.m2,c.m3,c.fr,c.ef,.int .i64 T.self,.int .i64 T.next,.int .i64 T.used,.int .u8 T.over,.int .i64 T.trap,.int .i64 T.role,c.st,slotP c.fr fs.length]:=m2.own
 obtain ⟨vv,stk,lv,ls,hkk,hck,o1,w1,o2,w2,g1,g2,d1,_⟩:=m2.top hT
 have hA:=slot_at m2.fr.rs hkk
 simp only at hkk hck
 rw [hck] at hA
 repeat' (first|refine w_seq ?_|refine w_reg ?_|refine w_e ?_|refine w_rf rfl (by assumption) (by rfl) (by rfl) (by rfl) ?_|refine w_opq rfl rfl ?_)
 refine w_nilck rfl hA ?_
 refine w_fadr rfl hA rfl fun hA1=>?_
 refine w_load1 rfl hA1 rfl ?_
 refine w_addN rfl rfl (by omega) ?_
 refine w_nilck rfl hA ?_
 refine w_fadr rfl hA rfl fun hA2=>?_
 refine w_storeS rfl rfl m2.fr hkk rfl (by decide) rfl fun h4 hF2 hE4 hn4=>?_
 simp only at hF2
 rw [hck] at hF2
 replace hF2:Ow h4 4 c.fr (c.lf.set fs.length [.int .i64 (.ofNat f.fn),.int .i64 (.ofNat (f.at_+1)),vv,stk]):=hF2
 have hz:∀ j,labN (labN L h0 [] 0) h1 [] 0 j=0→j∉slIds c.fr:=fun j hj hm=>by have:=m2.frl j hm;omega
 have m3:=m2.stack (l:=f.stack) (at_:=f.at_+1) (stk:=stk) (stk':=stk) hT o1 w1 g1 g2 (hE4.mono fun j hj=>by simp [hj]) hF2 (o2.ext hE4 fun j hj hm=>d1 j hj hm) (w2.ext hE4 hz fun j hj hl=>by rw [labN_old j hl];exact hj) fun i hi=>.inl hi
 have l1:labN (labN L h0 [] 0) h1 [] 0 i1=0:=labN_new (by omega) (by simp)
 have kp4:Keep (labN (labN L h0 [] 0) h1 [] 0) h3 h4:=Keep.of hE4 m2.frN
 have hI4:=kp4.own hI3 l1
 clear hX hA hA1 hA2
 have hX:Own h4 x [c.m0,c.m1,c.m2,c.m3,c.fr,c.ef,.int .i64 T.self,.int .i64 T.next,.int .i64 T.used,.int .u8 T.over,.int .i64 T.trap,.int .i64 T.role,c.st,slotP c.fr fs.length]:=m3.own
 repeat' (first|refine w_seq ?_|refine w_reg ?_|refine w_e ?_|refine w_fl rfl (by assumption) (by rfl) (by rfl) (by rfl) ?_|refine w_opq rfl rfl ?_)
 refine w_addW rfl rfl ?_
 repeat' (first|refine w_opq rfl rfl ?_)
 refine w_store rfl rfl hX rfl rfl (by decide) (by simp) fun h5 p1 p2 p3=>?_
 have m4:=m3.nums (self:=T.self) (next:=T.next) (used:=IntKind.i64.wrap (T.used+1)) (trap:=T.trap) (role:=T.role) p2 hone p1
 have hI5:Own h5 i1 (insC i):=hI4.ext p2 (by simp;intro e;subst e;rw [m2.lx] at l1;cases l1)
 repeat' (first|refine w_reg ?_|refine w_e ?_|refine w_opq rfl rfl ?_)
 refine w_loadA rfl (hI5.at rfl) rfl ?_
 refine w_callA [.ptr x 0 0 14,.agg (insC i)] rfl ((hd m4 rfl).mono fun _ h6 ⟨L6,c6,q1,q2,q3⟩=>?_)
 repeat' (first|refine w_e ?_|refine w_rt rfl ?_)
 have n4:=hE4.1
 have n5:=p2.1
 have a1:LabE L h0 (labN (labN L h0 [] 0) h1 [] 0):=labN_old.trans labN_old n1
 have b1:Keep L h0 h3:=(Keep.of k2 m.x0).trans (labN_old (l:=[]) (k:=0)) (Keep.ext0 hE3)
 have a2:=a1.trans (labN_old (L:=labN (labN L h0 [] 0) h1 [] 0) (h:=h3) (l:=slIds stk) (k:=2 * fs.length+5)) b1.n
 have b2:=b1.trans a1 kp4
 have a3:=a2.trans (labN_old (h:=h4) (l:=[]) (k:=0)) b2.n
 have b3:=b2.trans a2 (Keep.of p2 m3.x0)
 exact ⟨L6,c6,q1,a3.trans q2 b3.n,b3.trans a3 q3⟩
end AmT
namespace AmT
open Go Am
set_option maxRecDepth 100000
set_option maxHeartbeats 4000000
variable {O:CallF}
structure OffAc (O:CallF):Prop extends OffDo O where
 ac:∀ a h,O 196 a h=none
 wa:∀ a h,O 244 a h=none
theorem wants_send (hO:OffAc O) {h0:Heap} {x n:Nat} {a:Int} (hn:n<1000000):WPc tab.get O 244 [.ptr x 0 0 14,.agg (insC ⟨24,a,Int.ofNat n⟩)] h0 (fun v h'=>v=.int .i64 (.ofNat (n+1))∧Ext h0 h'):=by
 refine w_fn' (hO.wa _ _) rfl rfl (by simp only [c244,initV,nth] <;> rfl) ?_
 refine w_seq (w_reg (w_box rfl rfl rfl fun i2 h1 hI hi2 hE1=>?_))
 replace hI:Own h1 i2 [.int .u8 24,.int .i64 a,.int .i64 (.ofNat n)]:=hI
 repeat' (first|refine w_seq ?_|refine w_reg ?_|refine w_e ?_|refine w_rf rfl (by assumption) (by rfl) (by rfl) (by rfl) ?_|refine w_opk rfl rfl ?_)
 refine w_block ?_
 repeat' (first|refine w_seq ?_|refine w_reg ?_|refine w_e ?_|refine w_rf rfl (by assumption) (by rfl) (by rfl) (by rfl) ?_|refine w_addN rfl rfl (by omega) ?_|refine w_opk rfl rfl ?_|refine w_cond_t rfl ?_|refine w_cond_f rfl ?_|refine w_ret ?_|refine w_rt rfl ?_)
 exact ⟨rfl,hE1⟩
theorem wants_none (hO:OffAc O) {h0:Heap} {x:Nat} {op a b:Int} (ho:op=26∨op=34):WPc tab.get O 244 [.ptr x 0 0 14,.agg (insC ⟨op,a,b⟩)] h0 (fun v h'=>v=.int .i64 (.ofNat 0)∧Ext h0 h'):=by
 refine w_fn' (hO.wa _ _) rfl rfl (by simp only [c244,initV,nth] <;> rfl) ?_
 refine w_seq (w_reg (w_box rfl rfl rfl fun i2 h1 hI hi2 hE1=>?_))
 replace hI:Own h1 i2 [.int .u8 op,.int .i64 a,.int .i64 b]:=hI
 rcases ho with rfl | rfl
 all_goals (repeat' (first|refine w_seq ?_|refine w_reg ?_|refine w_e ?_|refine w_rf rfl (by assumption) (by rfl) (by rfl) (by rfl) ?_|refine w_opk rfl rfl ?_))
 all_goals refine w_block ?_
 all_goals (repeat' (first|refine w_seq ?_|refine w_reg ?_|refine w_e ?_|refine w_opk rfl rfl ?_|refine w_cond_f rfl ?_|refine w_skip ?_|refine w_ret ?_|refine w_rt rfl ?_))
 all_goals exact ⟨rfl,hE1⟩
theorem aend_ok (hO:OffAc O) {hb h0:Heap} {L:Lab} {x r q:Nat} {M:ModA} {T:Trn} {c:MC} {fs:List Frm} {f:Frm} {a b:Int} {p:PartA} (m:Mac hb L h0 x M T c) (hT:T.frames=fs++[f]) (hp:c.fp=slotP c.fr fs.length) (hf:Fair T f) (hr:T.role=Int.ofNat r) (hrp:M.roles[r]? = some p) (hq:p.params=Int.ofNat q) (hqv:q≤f.vars.length) (hvb:f.vars.length≤1000000) :
  WPc tab.get O 196 [.ptr x 0 0 14,.agg (insC ⟨34,a,b⟩)] h0 (fun _ h'=>Goes hb L h0 x M { endT T 1 with state:=f.vars.take q } h'):=by
 refine w_fn' (hO.ac _ _) rfl rfl (by simp only [c196,initV,nth] <;> rfl) ?_
 refine w_seq (w_reg (w_box rfl rfl rfl fun i2 h1 hI hi2 hE1=>?_))
 replace hI:Own h1 i2 (insC ⟨34,a,b⟩):=hI
 have m1:=m.ext0 hE1
 have hl2:labN L h0 [] 0 i2=0:=labN_new hi2 (by simp)
 have hst:=hf.st
 repeat' (first|refine w_seq ?_|refine w_reg ?_|refine w_e ?_|refine w_opk rfl rfl ?_)
 refine w_loadA rfl (hI.at rfl) rfl ?_
 refine w_callA [.ptr x 0 0 14,.agg (insC ⟨34,a,b⟩)] rfl ((wants_none hO (.inr rfl)).mono fun _ h2 ⟨e,hE2⟩=>?_)
 subst e
 have m2:=m1.ext0 hE2
 refine w_callA [.ptr x 0 0 14,.int .i64 (.ofNat 0)] rfl ((takeM_ok hO.toOffMc m2 hT hp hst (Nat.zero_le _)).mono fun _ h3 ⟨v,tl,L',c',e,o,ol,tv,m3,lE,kp,ef,ep⟩=>?_)
 subst e
 have hI3:=kp.own (hI.ext0 hE2) (by rw [labN_old i2 hI.1];exact hl2)
 replace hI3:Own h3 i2 [.int .u8 34,.int .i64 a,.int .i64 b]:=hI3
 have hp3:c'.fp=slotP c'.fr fs.length:=by rw [ef,ep];exact hp
 obtain ⟨vv,stk,lv,ls,hkk,hck,o1,w1,o2,w2,g1,g2,d1,d2,d3,d4,d5⟩:=m3.top (fs:=fs) (f:=cutF f 0) rfl
 have hX13:At h3 (.ptr x (0+13) 0 14) [slotP c'.fr fs.length]:=at13 m3.own rfl (by rw [← hp3];rfl)
 have hA:=slot_at m3.fr.rs hkk
 rw [hck] at hA
 have hX:Own h3 x [c'.m0,c'.m1,c'.m2,c'.m3,c'.fr,c'.ef,.int .i64 T.self,.int .i64 T.next,.int .i64 T.used,.int .u8 T.over,.int .i64 T.trap,.int .i64 (.ofNat r),c'.st,slotP c'.fr fs.length]:=by rw [← hr,← hp3];exact m3.own
 obtain ⟨cs,ts,fns,rs,lc,lfn,lr,e,r1,v1,r2,r3,a3,r4,a4⟩:=m3.md
 simp only [List.cons.injEq] at e
 obtain ⟨e0,e1,e2,e3,_⟩:=e
 have hk:r<M.roles.length:=(List.getElem?_eq_some_iff.1 hrp).1
 have hk2:r<lr.length:=by have:=a4.1;omega
 obtain ⟨ov,epr,rov⟩:=a4.get hk2 hk
 rw [(List.getElem?_eq_some_iff.1 hrp).2] at epr
 have rm3:=r4.1
 rw [← e3] at rm3
 have hRo:=slot_at rm3 hk2
 rw [epr,hq] at hRo
 have hwl:=w1.len
 have hvl:(cutF f 0).vars=f.vars:=rfl
 rw [hvl] at hwl w1
 repeat' (first|refine w_seq ?_|refine w_reg ?_|refine w_e ?_|refine w_rf rfl (by assumption) (by rfl) (by rfl) (by rfl) ?_|refine w_opk rfl rfl ?_|refine w_cond_f rfl ?_|refine w_skip ?_)
 refine w_block ?_
 repeat' (first|refine w_seq ?_|refine w_reg ?_|refine w_e ?_|refine w_rf rfl (by assumption) (by rfl) (by rfl) (by rfl) ?_|refine w_opk rfl rfl ?_|refine w_cond_f rfl ?_)
 refine w_nilck rfl hA ?_
 refine w_fadr rfl hA rfl fun hA2=>?_
 refine w_load1 rfl hA2 rfl ?_
 repeat' (first|refine w_rf rfl (by assumption) (by rfl) (by rfl) (by rfl) ?_|refine w_fl rfl (by assumption) (by rfl) (by rfl) (by rfl) ?_|refine w_opk rfl rfl ?_)
 refine w_iadrS rfl rfl rm3 hk2 ?_
 refine w_fadr rfl hRo rfl fun hRo1=>?_
 refine w_load1 rfl hRo1 rfl ?_
 refine w_slHi rfl rfl o1 (by omega) fun v1' p1 _=>?_
 refine w_call rfl ((cloneVal_ok hO.cl p1.rs (by rw [List.length_take];omega)).mono fun w h4 ⟨hw,hE4,hwn⟩=>?_)
 have m4:=m3.ext0 hE4
 have hX4:Own h4 x [c'.m0,c'.m1,c'.m2,c'.m3,c'.fr,c'.ef,.int .i64 T.self,.int .i64 T.next,.int .i64 T.used,.int .u8 T.over,.int .i64 T.trap,.int .i64 T.role,c'.st,c'.fp]:=m4.own
 have ow:=hw.rs.one
 repeat' (first|refine w_opk rfl rfl ?_)
 refine w_store rfl rfl hX4 (by rw [V.cells1 ow];rfl) (by rw [V.cells1 ow];simp only [allOne,ow]) (by decide) (by simp) fun h5 k1 k2 k3=>?_
 rw [V.cells1 ow] at k1
 have hv4:VasR (fun i=>labN L' h3 [] 0 i=0) h4 (f.vars.take q) (lv.take q):=(w1.take q).ext hE4 (by simp) fun j hj hl=>by rw [labN_old j hl];exact hj
 have m5:=m4.state (role':=T.role) k2 k1 ⟨hw.rs,fun j hj=>labN_new (hwn j hj) (by simp)⟩ hv4
 repeat' (first|refine w_reg ?_|refine w_e ?_|refine w_opk rfl rfl ?_)
 refine w_callA [.ptr x 0 0 14,.int .u8 1] rfl ((endM_ok hO.toOffMc m5).mono fun _ h6 ⟨q1,q2⟩=>?_)
 repeat' (first|refine w_e ?_|refine w_rt rfl ?_)
 have A1:LabE L h0 (labN (labN L h0 [] 0) h1 [] 0):=labN_old.trans labN_old hE1.1
 have B1:Keep L h0 h2:=Keep.ext0 (hE1.trans hE2)
 have A2:=A1.trans lE B1.n
 have B2:=B1.trans A1 kp
 have A3:=A2.trans (labN_old (h:=h3) (l:=[]) (k:=0)) B2.n
 have B3:=B2.trans A2 (Keep.ext0 hE4)
 have A4:=A3.trans (labN_old (h:=h4) (l:=[]) (k:=0)) B3.n
 have B4:=B3.trans A3 (Keep.of k2 m4.x0)
 have A5:=A4.trans (labN_old (h:=h5) (l:=[]) (k:=0)) B4.n
 have B5:=B4.trans A4 q2
 exact ⟨_,_,q1,A5,B5⟩
theorem asend_ok (hO:OffAc O) {hb h0:Heap} {L:Lab} {x t n:Nat} {M:ModA} {T:Trn} {c:MC} {fs:List Frm} {f:Frm} {tg:List UInt8} (m:Mac hb L h0 x M T c) (hT:T.frames=fs++[f]) (hp:c.fp=slotP c.fr fs.length) (hf:Fair T f) (ht:M.tags[t]? = some tg) (hn:n<1000000) :
  WPc tab.get O 196 [.ptr x 0 0 14,.agg (insC ⟨24,Int.ofNat t,Int.ofNat n⟩)] h0 (fun _ h'=>Goes hb L h0 x M (if f.stack.length<n+1 then trapT T 9 else if ((offF f (n+1)).headD zeroV).kind≠5 then trapT T 1 else { withF T fs (cutF f (n+1)) with effs:=T.effs++[⟨((offF f (n+1)).headD zeroV).num,-1,tg,(offF f (n+1)).drop 1⟩] }) h'):=by
 refine w_fn' (hO.ac _ _) rfl rfl (by simp only [c196,initV,nth] <;> rfl) ?_
 refine w_seq (w_reg (w_box rfl rfl rfl fun i2 h1 hI hi2 hE1=>?_))
 replace hI:Own h1 i2 (insC ⟨24,Int.ofNat t,Int.ofNat n⟩):=hI
 have m1:=m.ext0 hE1
 have hl2:labN L h0 [] 0 i2=0:=labN_new hi2 (by simp)
 have hst:=hf.st
 repeat' (first|refine w_seq ?_|refine w_reg ?_|refine w_e ?_|refine w_opk rfl rfl ?_)
 refine w_loadA rfl (hI.at rfl) rfl ?_
 refine w_callA [.ptr x 0 0 14,.agg (insC ⟨24,Int.ofNat t,Int.ofNat n⟩)] rfl ((wants_send hO hn).mono fun _ h2 ⟨e,hE2⟩=>?_)
 subst e
 have m2:=m1.ext0 hE2
 have A1:LabE L h0 (labN (labN L h0 [] 0) h1 [] 0):=labN_old.trans labN_old hE1.1
 have B1:Keep L h0 h2:=Keep.ext0 (hE1.trans hE2)
 by_cases hs:f.stack.length<n+1
 ·rw [if_pos hs]
  refine w_callA [.ptr x 0 0 14,.int .i64 (.ofNat (n+1))] rfl ((takeM_trap hO.toOffMc m2 hT hp hst hs (by omega) hf.nx hf.ef).mono fun _ h3 ⟨e,L',c',q1,q2,q3⟩=>?_)
  subst e
  repeat' (first|refine w_seq ?_|refine w_reg ?_|refine w_e ?_|refine w_opk rfl rfl ?_|refine w_cond_t rfl ?_|refine w_ret ?_|refine w_rt rfl ?_)
  exact ⟨L',c',q1,A1.trans q2 B1.n,B1.trans A1 q3⟩
 rw [if_neg hs]
 refine w_callA [.ptr x 0 0 14,.int .i64 (.ofNat (n+1))] rfl ((takeM_ok hO.toOffMc m2 hT hp hst (by omega)).mono fun _ h3 ⟨v,tl,L',c',e,o,ol,tv,m3,lE,kp,ef,ep⟩=>?_)
 subst e
 have hI3:=kp.own (hI.ext0 hE2) (by rw [labN_old i2 hI.1];exact hl2)
 replace hI3:Own h3 i2 [.int .u8 24,.int .i64 (.ofNat t),.int .i64 (.ofNat n)]:=hI3
 have hX:Own h3 x [c'.m0,c'.m1,c'.m2,c'.m3,c'.fr,c'.ef,.int .i64 T.self,.int .i64 T.next,.int .i64 T.used,.int .u8 T.over,.int .i64 T.trap,.int .i64 T.role,c'.st,c'.fp]:=m3.own
 have A2:=A1.trans lE B1.n
 have B2:=B1.trans A1 kp
 have hlo:(offF f (n+1)).length=n+1:=by unfold offF;rw [List.length_drop];omega
 have hcut:∀ k:Int,trapT (withF T fs (cutF f (n+1))) k=trapT T k:=fun _=>rfl
 generalize offF f (n+1)=l at *
 cases l with
 | nil=>simp at hlo
 | cons a rest=>
 unfold VasR at tv
 obtain ⟨ca,tl',rfl,ta,tv⟩:=tv
 obtain ⟨k,nn,s,ll⟩:=a
 have hh:((Val.mk k nn s ll :: rest).headD zeroV)=.mk k nn s ll:=rfl
 rw [hh]
 have hkk:(Val.mk k nn s ll).kind=k:=rfl
 have hnn:(Val.mk k nn s ll).num=nn:=rfl
 rw [hkk,hnn]
 unfold VaR at ta
 obtain ⟨lv,llc,rfl,rl,vl⟩:=ta
 have hS:=slot_at (j:=0) o.rs (by simp)
 have hS2:At h3 (slotP v 0) [.int .u8 k,.int .i64 nn,.str s,lv]:=hS
 obtain ⟨cs,ts,fns,rs,lc,lfn,lr,e,r1,v1,r2,r3,a3,r4,a4⟩:=m3.md
 simp only [List.cons.injEq] at e
 obtain ⟨e0,e1,e2,e3,_⟩:=e
 have hk1:t<(M.tags.map tagC).length:=by rw [List.length_map];exact (List.getElem?_eq_some_iff.1 ht).1
 have rm1:=r2.1
 rw [← e1] at rm1
 have hTg:=slot_at rm1 hk1
 rw [List.getElem_map,(List.getElem?_eq_some_iff.1 ht).2] at hTg
 repeat' (first|refine w_seq ?_|refine w_reg ?_|refine w_e ?_|refine w_rf rfl (by assumption) (by rfl) (by rfl) (by rfl) ?_|refine w_opk rfl rfl ?_|refine w_cond_f rfl ?_|refine w_skip ?_)
 refine w_block ?_
 repeat' (first|refine w_seq ?_|refine w_reg ?_|refine w_e ?_|refine w_opk rfl rfl ?_|refine w_cond_t rfl ?_|refine w_cond_f rfl ?_)
 refine w_iadrS (j:=0) rfl rfl o.rs (by simp) ?_
 refine w_fadr rfl hS2 rfl fun hS3=>?_
 refine w_load1 rfl hS3 rfl ?_
 by_cases h5:k=5
 ·subst h5
  rw [if_neg (by decide)]
  repeat' (first|refine w_reg ?_|refine w_e ?_|refine w_fl rfl (by assumption) (by rfl) (by rfl) (by rfl) ?_|refine w_opk rfl rfl ?_|refine w_cond_f rfl ?_|refine w_skip ?_)
  refine w_iadrS (j:=0) rfl rfl o.rs (by simp) ?_
  refine w_fadr rfl hS2 rfl fun hS4=>?_
  refine w_load1 rfl hS4 rfl ?_
  repeat' (first|refine w_rf rfl (by assumption) (by rfl) (by rfl) (by rfl) ?_|refine w_opk rfl rfl ?_)
  refine w_iadrS rfl rfl rm1 hk1 ?_
  refine w_load1 (c:=[]) rfl hTg rfl ?_
  repeat' (first|refine w_opk rfl rfl ?_)
  refine w_slLo (k:=1) rfl rfl o (by simp) fun v' p1 pl=>?_
  have hone:=p1.rs.one
  refine w_build [.int .i64 nn,.int .i64 (-1),.str tg,v'] rfl (by simp only [fillP,V.cells1 hone,allOne,hone];rfl) ?_
  have hel:=m3.es.1
  have hef1:T.effs.length≤1000000:=hf.ef
  have hel2:c'.le.length=T.effs.length:=hel
  have hce:allOne [V.int .i64 nn,.int .i64 (-1),.str tg,v']=true:=by simp only [allOne,hone];rfl
  refine w_push rfl rfl rfl hce (fun _=>rfl) m3.ef (by omega) fun aa ef' h4 hv' hf'=>?_
  have hX4:Own h4 x [c'.m0,c'.m1,c'.m2,c'.m3,c'.fr,c'.ef,.int .i64 T.self,.int .i64 T.next,.int .i64 T.used,.int .u8 T.over,.int .i64 T.trap,.int .i64 T.role,c'.st,c'.fp]:=hX.ext hf'.1 fun hm=>by have:=m3.efl x hm;have:=m3.lx;omega
  have oe:=hv'.rs.one
  repeat' (first|refine w_opk rfl rfl ?_)
  refine w_store rfl rfl hX4 (by rw [V.cells1 oe];rfl) (by rw [V.cells1 oe];simp only [allOne,oe]) (by decide) (by simp) fun h5 k1 k2 k3=>?_
  rw [V.cells1 oe] at k1
  repeat' (first|refine w_e ?_|refine w_rt rfl ?_)
  have hE:EffR (fun i=>L' i=0) h3 [.int .i64 nn,.int .i64 (-1),.str tg,v'] ⟨nn,-1,tg,rest⟩:=⟨v',tl',rfl,⟨p1.rs,fun j hj=>ol j (pl j hj)⟩,tv⟩
  obtain ⟨q1,q2⟩:=m3.eff hf' hv' k2 k1 hE
  exact ⟨_,_,q1,A2.trans labN_old B2.n,B2.trans A2 q2⟩
 ·rw [if_pos h5]
  repeat' (first|refine w_seq ?_|refine w_reg ?_|refine w_e ?_|refine w_neq rfl rfl (fun hc=>?_) (fun hc=>?_)|refine w_opk rfl rfl ?_|refine w_cond_t rfl ?_|refine w_cond_f rfl ?_|refine w_skip ?_)
  ·refine w_callA [.ptr x 0 0 14,.int .i64 1] rfl ((trapM_ok hO.toOffMc m3 hf.nx hf.ef).mono fun _ h4 ⟨L4,c4,q1,q2,q3⟩=>?_)
   repeat' (first|refine w_e ?_|refine w_ret ?_|refine w_rt rfl ?_)
   rw [hcut] at q1
   exact ⟨L4,c4,q1,A2.trans q2 B2.n,B2.trans A2 q3⟩
  all_goals exact absurd (show k=5 by assumption) h5
theorem wants_role (hO:OffAc O) {hb h0:Heap} {L:Lab} {x r q:Nat} {M:ModA} {T:Trn} {c:MC} {op b:Int} {p:PartA} (m:Mac hb L h0 x M T c) (ho:op=23∨op=25) (hrp:M.roles[r]? = some p) (hq:p.params=Int.ofNat q):WPc tab.get O 244 [.ptr x 0 0 14,.agg (insC ⟨op,Int.ofNat r,b⟩)] h0 (fun v h'=>v=.int .i64 (.ofNat q)∧Ext h0 h'):=by
 refine w_fn' (hO.wa _ _) rfl rfl (by simp only [c244,initV,nth] <;> rfl) ?_
 refine w_seq (w_reg (w_box rfl rfl rfl fun i2 h1 hI hi2 hE1=>?_))
 replace hI:Own h1 i2 [.int .u8 op,.int .i64 (.ofNat r),.int .i64 b]:=hI
 have m1:=m.ext0 hE1
 have hX:Own h1 x [c.m0,c.m1,c.m2,c.m3,c.fr,c.ef,.int .i64 T.self,.int .i64 T.next,.int .i64 T.used,.int .u8 T.over,.int .i64 T.trap,.int .i64 T.role,c.st,c.fp]:=m1.own
 obtain ⟨cs,ts,fns,rs,lc,lfn,lr,e,r1,v1,r2,r3,a3,r4,a4⟩:=m1.md
 simp only [List.cons.injEq] at e
 obtain ⟨e0,e1,e2,e3,_⟩:=e
 have hk:r<M.roles.length:=(List.getElem?_eq_some_iff.1 hrp).1
 have hk2:r<lr.length:=by have:=a4.1;omega
 obtain ⟨ov,epr,rov⟩:=a4.get hk2 hk
 rw [(List.getElem?_eq_some_iff.1 hrp).2] at epr
 have rm3:=r4.1
 rw [← e3] at rm3
 have hRo:=slot_at rm3 hk2
 rw [epr,hq] at hRo
 rcases ho with rfl | rfl
 all_goals (repeat' (first|refine w_seq ?_|refine w_reg ?_|refine w_e ?_|refine w_rf rfl (by assumption) (by rfl) (by rfl) (by rfl) ?_|refine w_opk rfl rfl ?_))
 all_goals refine w_block ?_
 all_goals (repeat' (first|refine w_seq ?_|refine w_reg ?_|refine w_e ?_|refine w_rf rfl (by assumption) (by rfl) (by rfl) (by rfl) ?_|refine w_opk rfl rfl ?_|refine w_cond_t rfl ?_|refine w_cond_f rfl ?_|refine w_skip ?_))
 all_goals
  refine w_iadrS rfl rfl rm3 hk2 ?_
  refine w_fadr rfl hRo rfl fun hRo1=>?_
  refine w_load1 rfl hRo1 rfl ?_
 all_goals (repeat' (first|refine w_e ?_|refine w_opk rfl rfl ?_|refine w_ret ?_|refine w_rt rfl ?_))
 all_goals exact ⟨rfl,hE1⟩
theorem aspawn_ok (hO:OffAc O) {hb h0:Heap} {L:Lab} {x r q:Nat} {M:ModA} {T:Trn} {c:MC} {fs:List Frm} {f:Frm} {b:Int} {p:PartA} (m:Mac hb L h0 x M T c) (hT:T.frames=fs++[f]) (hp:c.fp=slotP c.fr fs.length) (hf:Fair T f) (he1:T.effs.length<1000000) (hrp:M.roles[r]? = some p) (hq:p.params=Int.ofNat q) (hqb:q<1000000) :
  WPc tab.get O 196 [.ptr x 0 0 14,.agg (insC ⟨23,Int.ofNat r,b⟩)] h0 (fun _ h'=>Goes hb L h0 x M (if f.stack.length<q then trapT T 9 else putT { T with next:=IntKind.i64.wrap (T.next+1),effs:=T.effs++[⟨T.next,Int.ofNat r,[],offF f q⟩] } fs (cutF f q) (actV T.next)) h'):=by
 refine w_fn' (hO.ac _ _) rfl rfl (by simp only [c196,initV,nth] <;> rfl) ?_
 refine w_seq (w_reg (w_box rfl rfl rfl fun i2 h1 hI hi2 hE1=>?_))
 replace hI:Own h1 i2 (insC ⟨23,Int.ofNat r,b⟩):=hI
 have m1:=m.ext0 hE1
 have hl2:labN L h0 [] 0 i2=0:=labN_new hi2 (by simp)
 have hst:=hf.st
 repeat' (first|refine w_seq ?_|refine w_reg ?_|refine w_e ?_|refine w_opk rfl rfl ?_)
 refine w_loadA rfl (hI.at rfl) rfl ?_
 refine w_callA [.ptr x 0 0 14,.agg (insC ⟨23,Int.ofNat r,b⟩)] rfl ((wants_role hO m1 (.inl rfl) hrp hq).mono fun _ h2 ⟨e,hE2⟩=>?_)
 subst e
 have m2:=m1.ext0 hE2
 have A1:LabE L h0 (labN (labN L h0 [] 0) h1 [] 0):=labN_old.trans labN_old hE1.1
 have B1:Keep L h0 h2:=Keep.ext0 (hE1.trans hE2)
 by_cases hs:f.stack.length<q
 ·rw [if_pos hs]
  refine w_callA [.ptr x 0 0 14,.int .i64 (.ofNat q)] rfl ((takeM_trap hO.toOffMc m2 hT hp hst hs (by omega) hf.nx hf.ef).mono fun _ h3 ⟨e,L',c',q1,q2,q3⟩=>?_)
  subst e
  repeat' (first|refine w_seq ?_|refine w_reg ?_|refine w_e ?_|refine w_opk rfl rfl ?_|refine w_cond_t rfl ?_|refine w_ret ?_|refine w_rt rfl ?_)
  exact ⟨L',c',q1,A1.trans q2 B1.n,B1.trans A1 q3⟩
 rw [if_neg hs]
 refine w_callA [.ptr x 0 0 14,.int .i64 (.ofNat q)] rfl ((takeM_ok hO.toOffMc m2 hT hp hst (by omega)).mono fun _ h3 ⟨v,tl,L',c',e,o,ol,tv,m3,lE,kp,ef,ep⟩=>?_)
 subst e
 have hp3:c'.fp=slotP c'.fr fs.length:=by rw [ef,ep];exact hp
 have hI3:=kp.own (hI.ext0 hE2) (by rw [labN_old i2 hI.1];exact hl2)
 replace hI3:Own h3 i2 [.int .u8 23,.int .i64 (.ofNat r),.int .i64 b]:=hI3
 have hl3:L' i2=0:=by rw [lE i2 (by have:=hI.1;have:=hE2.1;omega),labN_old i2 hI.1];exact hl2
 have hX:Own h3 x [c'.m0,c'.m1,c'.m2,c'.m3,c'.fr,c'.ef,.int .i64 T.self,.int .i64 T.next,.int .i64 T.used,.int .u8 T.over,.int .i64 T.trap,.int .i64 T.role,c'.st,c'.fp]:=m3.own
 have A2:=A1.trans lE B1.n
 have B2:=B1.trans A1 kp
 repeat' (first|refine w_seq ?_|refine w_reg ?_|refine w_e ?_|refine w_rf rfl (by assumption) (by rfl) (by rfl) (by rfl) ?_|refine w_opk rfl rfl ?_|refine w_cond_f rfl ?_|refine w_skip ?_)
 refine w_block ?_
 repeat' (first|refine w_seq ?_|refine w_reg ?_|refine w_e ?_|refine w_fl rfl (by assumption) (by rfl) (by rfl) (by rfl) ?_|refine w_opk rfl rfl ?_|refine w_cond_t rfl ?_|refine w_cond_f rfl ?_)
 refine w_store rfl rfl hX rfl rfl (by decide) (by simp) fun h4 k1 k2 k3=>?_
 replace k1:Own h4 x [c'.m0,c'.m1,c'.m2,c'.m3,c'.fr,c'.ef,.int .i64 T.self,.int .i64 (wrapK .i64 (T.next+Int.ofNat 1)),.int .i64 T.used,.int .u8 T.over,.int .i64 T.trap,.int .i64 T.role,c'.st,c'.fp]:=k1
 rw [wrapK_eq] at k1
 have m4:=m3.nums (self:=T.self) (next:=IntKind.i64.wrap (T.next+1)) (used:=T.used) (trap:=T.trap) (role:=T.role) k2 m3.one k1
 have kp4:Keep L' h3 h4:=Keep.of k2 m3.x0
 have hI4:=kp4.own hI3 hl3
 have A3:=A2.trans (labN_old (h:=h3) (l:=[]) (k:=0)) B2.n
 have B3:=B2.trans A2 kp4
 have o4:RSz (fun i=>labN L' h3 [] 0 i=0) h4 4 v tl:=kp4.rsz labN_old ⟨o.rs,ol⟩
 have tv4:VasR (fun i=>labN L' h3 [] 0 i=0) h4 (offF f q) tl:=kp4.vas labN_old tv
 clear hX
 have hX:Own h4 x [c'.m0,c'.m1,c'.m2,c'.m3,c'.fr,c'.ef,.int .i64 T.self,.int .i64 (IntKind.i64.wrap (T.next+1)),.int .i64 T.used,.int .u8 T.over,.int .i64 T.trap,.int .i64 T.role,c'.st,c'.fp]:=m4.own
 have hone:=o4.1.one
 repeat' (first|refine w_seq ?_|refine w_reg ?_|refine w_e ?_|refine w_rf rfl (by assumption) (by rfl) (by rfl) (by rfl) ?_|refine w_fl rfl (by assumption) (by rfl) (by rfl) (by rfl) ?_|refine w_opk rfl rfl ?_)
 refine w_build [.int .i64 T.next,.int .i64 (.ofNat r),.str [],v] rfl (by simp only [fillP,V.cells1 hone,allOne,hone];rfl) ?_
 have hel:=m4.es.1
 have hel2:c'.le.length=T.effs.length:=hel
 have hce:allOne [V.int .i64 T.next,.int .i64 (.ofNat r),.str [],v]=true:=by simp only [allOne,hone];rfl
 refine w_push rfl rfl rfl hce (fun _=>rfl) m4.ef (by show c'.le.length+1≤_;omega) fun aa ef' h5 hv' hf'=>?_
 have hX5:Own h5 x [c'.m0,c'.m1,c'.m2,c'.m3,c'.fr,c'.ef,.int .i64 T.self,.int .i64 (IntKind.i64.wrap (T.next+1)),.int .i64 T.used,.int .u8 T.over,.int .i64 T.trap,.int .i64 T.role,c'.st,c'.fp]:=hX.ext hf'.1 fun hm=>by have:=m4.efl x hm;have:=m4.lx;omega
 have oe:=hv'.rs.one
 repeat' (first|refine w_opk rfl rfl ?_)
 refine w_store rfl rfl hX5 (by rw [V.cells1 oe];rfl) (by rw [V.cells1 oe];simp only [allOne,oe]) (by decide) (by simp) fun h6 p1 p2 p3=>?_
 rw [V.cells1 oe] at p1
 have hE:EffR (fun i=>labN L' h3 [] 0 i=0) h4 [.int .i64 T.next,.int .i64 (.ofNat r),.str [],v] ⟨T.next,Int.ofNat r,[],offF f q⟩:=⟨v,tl,rfl,o4,tv4⟩
 obtain ⟨m6,kp6⟩:=m4.eff hf' hv' p2 p1 hE
 have A4:=A3.trans (labN_old (h:=h4) (l:=slIds ef') (k:=3)) B3.n
 have B4:=B3.trans A3 kp6
 repeat' (first|refine w_reg ?_|refine w_e ?_|refine w_opk rfl rfl ?_)
 refine w_build [.int .u8 5,.int .i64 T.next,.str [],.nils] rfl rfl ?_
 have hnx:I64 (IntKind.i64.wrap (T.next+1)):=by
  have:=wrap_i64 (T.next+1)
  unfold Am.i64 at this
  exact ⟨this.1,by omega⟩
 refine w_call rfl ((putM_ok hO.toOffMc m6 (fs:=fs) (f:=cutF f q) rfl hp3 (VaR.num 5 T.next) (by unfold cutF;simp only [List.length_take];omega) hnx (by show (T.effs++[(⟨T.next,Int.ofNat r,[],offF f q⟩:Eff)]).length≤1000000;rw [List.length_append];exact he1)).mono fun _ h7 ⟨L7,c7,q1,q2,q3,_⟩=>?_)
 repeat' (first|refine w_e ?_|refine w_rt rfl ?_)
 exact ⟨L7,c7,q1,A4.trans q2 B4.n,B4.trans A4 q3⟩
end AmT
namespace AmT
open Go Am
set_option maxRecDepth 100000
set_option maxHeartbeats 4000000
variable {O:CallF}
theorem wants_one (hO:OffAc O) {h0:Heap} {x:Nat} {a b:Int} : WPc tab.get O 244 [.ptr x 0 0 14,.agg (insC ⟨33,a,b⟩)] h0 (fun v h'=>v=.int .i64 (.ofNat 1)∧Ext h0 h'):=by
 refine w_fn' (hO.wa _ _) rfl rfl (by simp only [c244,initV,nth] <;> rfl) ?_
 refine w_seq (w_reg (w_box rfl rfl rfl fun i2 h1 hI hi2 hE1=>?_))
 replace hI:Own h1 i2 [.int .u8 33,.int .i64 a,.int .i64 b]:=hI
 repeat' (first|refine w_seq ?_|refine w_reg ?_|refine w_e ?_|refine w_rf rfl (by assumption) (by rfl) (by rfl) (by rfl) ?_|refine w_opk rfl rfl ?_)
 refine w_block ?_
 repeat' (first|refine w_seq ?_|refine w_reg ?_|refine w_e ?_|refine w_opk rfl rfl ?_|refine w_cond_t rfl ?_|refine w_cond_f rfl ?_|refine w_ret ?_|refine w_rt rfl ?_)
 exact ⟨rfl,hE1⟩
def retT (T:Trn) (fs:List Frm) (f:Frm):Trn:=
 if f.stack.length<1 then trapT T 9 else match fs.getLast? with
  | none=>trapT T 9
  | some g=>putT T fs.dropLast g ((offF f 1).headD zeroV)
theorem areturn_ok (hO:OffAc O) {hb h0:Heap} {L:Lab} {x:Nat} {M:ModA} {T:Trn} {c:MC} {fs:List Frm} {f:Frm} {a b:Int} (m:Mac hb L h0 x M T c) (hT:T.frames=fs++[f]) (hp:c.fp=slotP c.fr fs.length) (hf:Fair T f) (hfl:fs.length<1000000) (hg:∀ g,fs.getLast? = some g→g.stack.length≤200) :
  WPc tab.get O 196 [.ptr x 0 0 14,.agg (insC ⟨33,a,b⟩)] h0 (fun _ h'=>Goes hb L h0 x M (retT T fs f) h'):=by
 refine w_fn' (hO.ac _ _) rfl rfl (by simp only [c196,initV,nth] <;> rfl) ?_
 refine w_seq (w_reg (w_box rfl rfl rfl fun i2 h1 hI hi2 hE1=>?_))
 replace hI:Own h1 i2 (insC ⟨33,a,b⟩):=hI
 have m1:=m.ext0 hE1
 have hl2:labN L h0 [] 0 i2=0:=labN_new hi2 (by simp)
 have hst:=hf.st
 repeat' (first|refine w_seq ?_|refine w_reg ?_|refine w_e ?_|refine w_opk rfl rfl ?_)
 refine w_loadA rfl (hI.at rfl) rfl ?_
 refine w_callA [.ptr x 0 0 14,.agg (insC ⟨33,a,b⟩)] rfl ((wants_one hO).mono fun _ h2 ⟨e,hE2⟩=>?_)
 subst e
 have m2:=m1.ext0 hE2
 have A1:LabE L h0 (labN (labN L h0 [] 0) h1 [] 0):=labN_old.trans labN_old hE1.1
 have B1:Keep L h0 h2:=Keep.ext0 (hE1.trans hE2)
 by_cases hs:f.stack.length<1
 ·have e9:retT T fs f=trapT T 9:=by unfold retT;rw [if_pos hs]
  rw [e9]
  refine w_callA [.ptr x 0 0 14,.int .i64 (.ofNat 1)] rfl ((takeM_trap hO.toOffMc m2 hT hp hst hs (by omega) hf.nx hf.ef).mono fun _ h3 ⟨e,L',c',q1,q2,q3⟩=>?_)
  subst e
  repeat' (first|refine w_seq ?_|refine w_reg ?_|refine w_e ?_|refine w_opk rfl rfl ?_|refine w_cond_t rfl ?_|refine w_ret ?_|refine w_rt rfl ?_)
  exact ⟨L',c',q1,A1.trans q2 B1.n,B1.trans A1 q3⟩
 refine w_callA [.ptr x 0 0 14,.int .i64 (.ofNat 1)] rfl ((takeM_ok hO.toOffMc m2 hT hp hst (by omega)).mono fun _ h3 ⟨v,tl,L',c',e,o,ol,tv,m3,lE,kp,ef,ep⟩=>?_)
 subst e
 have hI3:=kp.own (hI.ext0 hE2) (by rw [labN_old i2 hI.1];exact hl2)
 replace hI3:Own h3 i2 [.int .u8 33,.int .i64 a,.int .i64 b]:=hI3
 have hX:Own h3 x [c'.m0,c'.m1,c'.m2,c'.m3,c'.fr,c'.ef,.int .i64 T.self,.int .i64 T.next,.int .i64 T.used,.int .u8 T.over,.int .i64 T.trap,.int .i64 T.role,c'.st,c'.fp]:=m3.own
 have A2:=A1.trans lE B1.n
 have B2:=B1.trans A1 kp
 have hlo:(offF f 1).length=1:=by unfold offF;rw [List.length_drop];omega
 have hlf:=m3.fs.1
 replace hlf:c'.lf.length=fs.length+1:=by rw [hlf];show (fs++[cutF f 1]).length=_;simp
 have hfr:=m3.fr.rs
 rcases List.eq_nil_or_concat fs with rfl | ⟨gs,g,egs⟩
 ·have ht:(trapT (withF T [] (cutF f 1)) 9)=trapT T 9:=rfl
  have hlf1:c'.lf.length=1:=hlf
  have e9:retT T [] f=trapT T 9:=by unfold retT;rw [if_neg hs];rfl
  rw [e9]
  repeat' (first|refine w_seq ?_|refine w_reg ?_|refine w_e ?_|refine w_rf rfl (by assumption) (by rfl) (by rfl) (by rfl) ?_|refine w_opk rfl rfl ?_|refine w_cond_f rfl ?_|refine w_skip ?_)
  refine w_block ?_
  repeat' (first|refine w_seq ?_|refine w_reg ?_|refine w_e ?_|refine w_fl rfl (by assumption) (by rfl) (by rfl) (by rfl) ?_|refine w_len rfl (by assumption) ?_|refine w_opk rfl rfl ?_|refine w_cond_t rfl ?_|refine w_cond_f rfl ?_)
  rw [hlf1]
  repeat' (first|refine w_seq ?_|refine w_reg ?_|refine w_opk rfl rfl ?_|refine w_cond_t rfl ?_)
  refine w_callA [.ptr x 0 0 14,.int .i64 (.ofNat 9)] rfl ((trapM_ok hO.toOffMc m3 hf.nx hf.ef).mono fun _ h4 ⟨L4,c4,q1,q2,q3⟩=>?_)
  repeat' (first|refine w_e ?_|refine w_ret ?_|refine w_rt rfl ?_)
  exact ⟨L4,c4,q1,A2.trans q2 B2.n,B2.trans A2 q3⟩
 ·rw [List.concat_eq_append] at egs
  subst egs
  have e9:retT T (gs++[g]) f=putT T gs g ((offF f 1).headD zeroV):=by unfold retT;rw [if_neg hs,List.getLast?_concat,List.dropLast_concat]
  rw [e9]
  have hgs:=hg g List.getLast?_concat
  have hgl:(gs++[g]).length=gs.length+1:=by simp
  repeat' (first|refine w_seq ?_|refine w_reg ?_|refine w_e ?_|refine w_rf rfl (by assumption) (by rfl) (by rfl) (by rfl) ?_|refine w_opk rfl rfl ?_|refine w_cond_f rfl ?_|refine w_skip ?_)
  have hb:iLt (Int.ofNat c'.lf.length) (Int.ofNat 2)=false:=by
   rw [hlf,hgl]
   exact Bool.eq_false_iff.2 fun hb=>absurd (nblt.1 hb) (by omega)
  refine w_block ?_
  repeat' (first|refine w_seq ?_|refine w_reg ?_|refine w_e ?_|refine w_fl rfl (by assumption) (by rfl) (by rfl) (by rfl) ?_|refine w_len rfl (by assumption) ?_|refine w_opk rfl rfl ?_|refine w_cond_t rfl ?_|refine w_cond_f rfl ?_)
  rw [hb]
  repeat' (first|refine w_seq ?_|refine w_reg ?_|refine w_fl rfl (by assumption) (by rfl) (by rfl) (by rfl) ?_|refine w_len rfl (by assumption) ?_|refine w_opk rfl rfl ?_|refine w_cond_f rfl ?_|refine w_skip ?_)
  have hw:wrapK .i64 (Int.ofNat c'.lf.length - Int.ofNat 1)=.ofNat (gs.length+1):=by
   rw [wrapK_eq,wrap_i64_of (by rw [hlf,hgl];show _≤((gs.length+1+1:Nat):Int) - 1;omega) (by rw [hlf,hgl];show ((gs.length+1+1:Nat):Int) - 1≤_;omega),hlf,hgl]
   show ((gs.length+1+1:Nat):Int) - 1=((gs.length+1:Nat):Int)
   omega
  rw [hw]
  refine w_slHi rfl rfl m3.fr (by omega) fun fr' p1 pl=>?_
  have p1l:(c'.lf.take (gs.length+1)).length=gs.length+1:=by rw [List.length_take];omega
  have oe:=p1.rs.one
  repeat' (first|refine w_opk rfl rfl ?_)
  refine w_store rfl rfl hX (by rw [V.cells1 oe];rfl) (by rw [V.cells1 oe];simp only [allOne,oe]) (by decide) (by simp) fun h4 k1 k2 k3=>?_
  rw [V.cells1 oe] at k1
  clear hX
  have hX:Own h4 x [c'.m0,c'.m1,c'.m2,c'.m3,fr',c'.ef,.int .i64 T.self,.int .i64 T.next,.int .i64 T.used,.int .u8 T.over,.int .i64 T.trap,.int .i64 T.role,c'.st,c'.fp]:=k1
  have p2:Ow h4 4 fr' (c'.lf.take (gs.length+1)):=p1.ext k2 fun j hj hm=>by have:=m3.frl j (pl j hj);simp at hm;subst hm;have:=m3.lx;omega
  have hfr2:=p2.rs
  repeat' (first|refine w_seq ?_|refine w_reg ?_|refine w_e ?_|refine w_fl rfl (by assumption) (by rfl) (by rfl) (by rfl) ?_|refine w_len rfl (by assumption) ?_|refine w_opk rfl rfl ?_)
  have hw2:wrapK .i64 (Int.ofNat (List.take (gs.length+1) c'.lf).length - Int.ofNat 1)=.ofNat gs.length:=by
   rw [wrapK_eq,p1l,wrap_i64_of (by show _≤((gs.length+1:Nat):Int) - 1;omega) (by show ((gs.length+1:Nat):Int) - 1≤_;omega)]
   show ((gs.length+1:Nat):Int) - 1=(gs.length:Int)
   omega
  rw [hw2]
  refine w_iadrS rfl rfl hfr2 (by omega) ?_
  have hone:=slot_one (j:=gs.length) p2 (by omega)
  repeat' (first|refine w_opk rfl rfl ?_)
  refine w_store rfl rfl hX (by rw [V.cells1 hone];rfl) (by rw [V.cells1 hone];simp only [allOne,hone]) (by decide) (by simp) fun h5 y1 y2 y3=>?_
  rw [V.cells1 hone] at y1
  have hE5:ExtX [x] h3 h5:=k2.trans y2
  have m5:=m3.pop (gs:=gs) (g:=g) (f:=cutF f 1) rfl hE5 p1 pl hone y1
  have kp5:Keep L' h3 h5:=Keep.of hE5 m3.x0
  have A3:=A2.trans (labN_old (h:=h3) (l:=[]) (k:=0)) B2.n
  have B3:=B2.trans A2 kp5
  have o5:RSz (fun i=>labN L' h3 [] 0 i=0) h5 4 v tl:=kp5.rsz labN_old ⟨o.rs,ol⟩
  have tv5:VasR (fun i=>labN L' h3 [] 0 i=0) h5 (offF f 1) tl:=kp5.vas labN_old tv
  have htl:tl.length=1:=by rw [tv5.len];exact hlo
  cases tl with
  | nil=>simp at htl
  | cons ca tl'=>
  generalize offF f 1=l at *
  cases l with
  | nil=>simp at hlo
  | cons w rest=>
  have hvw:=tv5
  unfold VasR at hvw
  obtain ⟨ca',tl2,ee,ta,_⟩:=hvw
  simp only [List.cons.injEq] at ee
  obtain ⟨rfl,rfl⟩:=ee
  have hsh:=ta.shape
  have hS:=slot_at (j:=0) o5.1 (by simp)
  have hS2:At h5 (slotP v 0) ca:=hS
  clear hX
  have hX:=m5.own
  repeat' (first|refine w_reg ?_|refine w_e ?_|refine w_opk rfl rfl ?_)
  refine w_iadrS (j:=0) rfl rfl o5.1 (by simp) ?_
  refine w_loadA rfl hS2 (by rw [hsh.1];rfl) ?_
  rw [show List.take 4 ca=ca from List.take_of_length_le (by rw [hsh.1];omega)]
  refine w_callA [.ptr x 0 0 14,.agg ca] rfl ((putM_ok hO.toOffMc m5 rfl rfl ta hgs hf.nx hf.ef).mono fun _ h7 ⟨L7,c7,q1,q2,q3,_⟩=>?_)
  repeat' (first|refine w_e ?_|refine w_rt rfl ?_)
  exact ⟨L7,c7,q1,A3.trans q2 B3.n,B3.trans A3 q3⟩
end AmT
namespace AmT
open Go Am
set_option maxRecDepth 100000
set_option maxHeartbeats 4000000
variable {O:CallF}
theorem wants_call (hO:OffAc O) {hb h0:Heap} {L:Lab} {x r q:Nat} {M:ModA} {T:Trn} {c:MC} {b:Int} {p:FnA} (m:Mac hb L h0 x M T c) (hrp:M.fns[r]? = some p) (hq:p.params=Int.ofNat q):WPc tab.get O 244 [.ptr x 0 0 14,.agg (insC ⟨22,Int.ofNat r,b⟩)] h0 (fun v h'=>v=.int .i64 (.ofNat q)∧Ext h0 h'):=by
 refine w_fn' (hO.wa _ _) rfl rfl (by simp only [c244,initV,nth] <;> rfl) ?_
 refine w_seq (w_reg (w_box rfl rfl rfl fun i2 h1 hI hi2 hE1=>?_))
 replace hI:Own h1 i2 [.int .u8 22,.int .i64 (.ofNat r),.int .i64 b]:=hI
 have m1:=m.ext0 hE1
 have hX:Own h1 x [c.m0,c.m1,c.m2,c.m3,c.fr,c.ef,.int .i64 T.self,.int .i64 T.next,.int .i64 T.used,.int .u8 T.over,.int .i64 T.trap,.int .i64 T.role,c.st,c.fp]:=m1.own
 obtain ⟨cs,ts,fns,rs,lc,lfn,lr,e,r1,v1,r2,r3,a3,r4,a4⟩:=m1.md
 simp only [List.cons.injEq] at e
 obtain ⟨e0,e1,e2,e3,_⟩:=e
 have hk:r<M.fns.length:=(List.getElem?_eq_some_iff.1 hrp).1
 have hk2:r<lfn.length:=by have:=a3.1;omega
 obtain ⟨ov,epr,rov⟩:=a3.get hk2 hk
 rw [(List.getElem?_eq_some_iff.1 hrp).2] at epr
 have rm3:=r3.1
 rw [← e2] at rm3
 have hRo:=slot_at rm3 hk2
 rw [epr,hq] at hRo
 repeat' (first|refine w_seq ?_|refine w_reg ?_|refine w_e ?_|refine w_rf rfl (by assumption) (by rfl) (by rfl) (by rfl) ?_|refine w_opk rfl rfl ?_)
 refine w_block ?_
 repeat' (first|refine w_seq ?_|refine w_reg ?_|refine w_e ?_|refine w_rf rfl (by assumption) (by rfl) (by rfl) (by rfl) ?_|refine w_opk rfl rfl ?_|refine w_cond_t rfl ?_)
 refine w_iadrS rfl rfl rm3 hk2 ?_
 refine w_fadr rfl hRo rfl fun hRo1=>?_
 refine w_load1 rfl hRo1 rfl ?_
 repeat' (first|refine w_e ?_|refine w_opk rfl rfl ?_|refine w_ret ?_|refine w_rt rfl ?_)
 exact ⟨rfl,hE1⟩
def callT (M:ModA) (T:Trn) (fs:List Frm) (f:Frm) (a q:Nat):Trn:=
 if f.stack.length<q then trapT T 9 else if 50≤fs.length+1 then trapT T 6 else { T with frames:=fs++[cutF f q]++[framedT M a (offF f q)] }
theorem acall_ok (hO:OffAc O) (hFr:∀ a h,O 59 a h=none) {hb h0:Heap} {L:Lab} {x r q nv:Nat} {M:ModA} {T:Trn} {c:MC} {fs:List Frm} {f:Frm} {b:Int} {p:FnA} (m:Mac hb L h0 x M T c) (hT:T.frames=fs++[f]) (hp:c.fp=slotP c.fr fs.length) (hf:Fair T f) (hrp:M.fns[r]? = some p) (hq:p.params=Int.ofNat q) (hqb:q<1000000) (hv:p.vars=Int.ofNat nv) (hnv:nv≤1000000) (hfl:fs.length<1000000) :
  WPc tab.get O 196 [.ptr x 0 0 14,.agg (insC ⟨22,Int.ofNat r,b⟩)] h0 (fun _ h'=>Goes hb L h0 x M (callT M T fs f r q) h'):=by
 refine w_fn' (hO.ac _ _) rfl rfl (by simp only [c196,initV,nth] <;> rfl) ?_
 refine w_seq (w_reg (w_box rfl rfl rfl fun i2 h1 hI hi2 hE1=>?_))
 replace hI:Own h1 i2 (insC ⟨22,Int.ofNat r,b⟩):=hI
 have m1:=m.ext0 hE1
 have hl2:labN L h0 [] 0 i2=0:=labN_new hi2 (by simp)
 have hst:=hf.st
 repeat' (first|refine w_seq ?_|refine w_reg ?_|refine w_e ?_|refine w_opk rfl rfl ?_)
 refine w_loadA rfl (hI.at rfl) rfl ?_
 refine w_callA [.ptr x 0 0 14,.agg (insC ⟨22,Int.ofNat r,b⟩)] rfl ((wants_call hO m1 hrp hq).mono fun _ h2 ⟨e,hE2⟩=>?_)
 subst e
 have m2:=m1.ext0 hE2
 have A1:LabE L h0 (labN (labN L h0 [] 0) h1 [] 0):=labN_old.trans labN_old hE1.1
 have B1:Keep L h0 h2:=Keep.ext0 (hE1.trans hE2)
 by_cases hs:f.stack.length<q
 ·have e9:callT M T fs f r q=trapT T 9:=by unfold callT;rw [if_pos hs]
  rw [e9]
  refine w_callA [.ptr x 0 0 14,.int .i64 (.ofNat q)] rfl ((takeM_trap hO.toOffMc m2 hT hp hst hs (by omega) hf.nx hf.ef).mono fun _ h3 ⟨e,L',c',q1,q2,q3⟩=>?_)
  subst e
  repeat' (first|refine w_seq ?_|refine w_reg ?_|refine w_e ?_|refine w_opk rfl rfl ?_|refine w_cond_t rfl ?_|refine w_ret ?_|refine w_rt rfl ?_)
  exact ⟨L',c',q1,A1.trans q2 B1.n,B1.trans A1 q3⟩
 refine w_callA [.ptr x 0 0 14,.int .i64 (.ofNat q)] rfl ((takeM_ok hO.toOffMc m2 hT hp hst (by omega)).mono fun _ h3 ⟨v,tl,L',c',e,o,ol,tv,m3,lE,kp,ef,ep⟩=>?_)
 subst e
 have hI3:=kp.own (hI.ext0 hE2) (by rw [labN_old i2 hI.1];exact hl2)
 replace hI3:Own h3 i2 [.int .u8 22,.int .i64 (.ofNat r),.int .i64 b]:=hI3
 have hX:Own h3 x [c'.m0,c'.m1,c'.m2,c'.m3,c'.fr,c'.ef,.int .i64 T.self,.int .i64 T.next,.int .i64 T.used,.int .u8 T.over,.int .i64 T.trap,.int .i64 T.role,c'.st,c'.fp]:=m3.own
 have A2:=A1.trans lE B1.n
 have B2:=B1.trans A1 kp
 have hlf:=m3.fs.1
 replace hlf:c'.lf.length=fs.length+1:=by rw [hlf];show (fs++[cutF f q]).length=_;simp
 have hfr:=m3.fr.rs
 by_cases hd:50≤fs.length+1
 ·have e9:callT M T fs f r q=trapT T 6:=by unfold callT;rw [if_neg hs,if_pos hd]
  rw [e9]
  have hb:Nat.blt c'.lf.length 50=false:=Bool.eq_false_iff.2 fun hb=>absurd (nblt.1 hb) (by omega)
  have hb2:iNot (iLt (Int.ofNat c'.lf.length) (Int.ofNat 50))=true:=by
   show (!Nat.blt c'.lf.length 50)=true
   rw [hb];rfl
  repeat' (first|refine w_seq ?_|refine w_reg ?_|refine w_e ?_|refine w_rf rfl (by assumption) (by rfl) (by rfl) (by rfl) ?_|refine w_opk rfl rfl ?_|refine w_cond_f rfl ?_|refine w_skip ?_)
  refine w_block ?_
  repeat' (first|refine w_seq ?_|refine w_reg ?_|refine w_e ?_|refine w_fl rfl (by assumption) (by rfl) (by rfl) (by rfl) ?_|refine w_len rfl (by assumption) ?_|refine w_opk rfl rfl ?_|refine w_cond_t rfl ?_)
  rw [hb2]
  repeat' (first|refine w_seq ?_|refine w_reg ?_|refine w_opk rfl rfl ?_|refine w_cond_t rfl ?_)
  refine w_callA [.ptr x 0 0 14,.int .i64 (.ofNat 6)] rfl ((trapM_ok hO.toOffMc m3 hf.nx hf.ef).mono fun _ h4 ⟨L4,c4,q1,q2,q3⟩=>?_)
  repeat' (first|refine w_e ?_|refine w_ret ?_|refine w_rt rfl ?_)
  exact ⟨L4,c4,q1,A2.trans q2 B2.n,B2.trans A2 q3⟩
 ·have e9:callT M T fs f r q = { T with frames:=fs++[cutF f q]++[framedT M r (offF f q)] }:=by unfold callT;rw [if_neg hs,if_neg hd]
  rw [e9]
  have hb:Nat.blt c'.lf.length 50=true:=nblt.2 (by omega)
  have hb2:iNot (iLt (Int.ofNat c'.lf.length) (Int.ofNat 50))=false:=by
   show (!Nat.blt c'.lf.length 50)=false
   rw [hb];rfl
  obtain ⟨cs,ts,fns,rs,lc,lfn,lr,e,r1,v1,r2,r3,a3,r4,a4⟩:=m3.md
  simp only [List.cons.injEq] at e
  obtain ⟨e0,e1,e2,e3,_⟩:=e
  have hm4:allOne [c'.m0,c'.m1,c'.m2,c'.m3]=true:=by
   rw [e0,e1,e2,e3]
   simp only [allOne,r1.1.one,r2.1.one,r3.1.one,r4.1.one,Bool.and_self]
  have hk:r<M.fns.length:=(List.getElem?_eq_some_iff.1 hrp).1
  have hk2:r<lfn.length:=by have:=a3.1;omega
  obtain ⟨ov,epr,rov⟩:=a3.get hk2 hk
  rw [(List.getElem?_eq_some_iff.1 hrp).2] at epr
  have rm3:=r3.1
  rw [← e2] at rm3
  rw [hv] at epr
  have hlo:(offF f q).length=q:=by unfold offF;rw [List.length_drop];omega
  have htl:tl.length=q:=by rw [tv.len];exact hlo
  have hXA:At h3 (.ptr x 0 0 14) (c'.cells T):=m3.own.at rfl
  repeat' (first|refine w_seq ?_|refine w_reg ?_|refine w_e ?_|refine w_rf rfl (by assumption) (by rfl) (by rfl) (by rfl) ?_|refine w_opk rfl rfl ?_|refine w_cond_f rfl ?_|refine w_skip ?_)
  refine w_block ?_
  repeat' (first|refine w_seq ?_|refine w_reg ?_|refine w_e ?_|refine w_fl rfl (by assumption) (by rfl) (by rfl) (by rfl) ?_|refine w_len rfl (by assumption) ?_|refine w_opk rfl rfl ?_|refine w_cond_t rfl ?_)
  rw [hb2]
  repeat' (first|refine w_reg ?_|refine w_fl rfl (by assumption) (by rfl) (by rfl) (by rfl) ?_|refine w_opk rfl rfl ?_|refine w_cond_f rfl ?_|refine w_skip ?_)
  refine w_loadA (n:=4) rfl (show At h3 (.ptr x (0+0) 0 14) (c'.cells T) from hXA) rfl ?_
  repeat' (first|refine w_rf rfl (by assumption) (by rfl) (by rfl) (by rfl) ?_|refine w_opk rfl rfl ?_)
  refine w_callA [.agg [c'.m0,c'.m1,c'.m2,c'.m3],.int .i64 (.ofNat r),v] rfl ((framed_ok hFr hO.cl hm4 rm3 hk2 ⟨_,_,_,epr⟩ o.rs (by omega) hnv).mono fun _ h4 ⟨w,ew,ow,wn,hE4⟩=>?_)
  subst ew
  skip
  have m4:=m3.extN hE4 (slIds w) (2 * (fs.length+1)+4)
  have kp4:Keep L' h3 h4:=Keep.ext0 hE4
  have LE4:LabE L' h3 (labN L' h3 (slIds w) (2 * (fs.length+1)+4)):=labN_old
  have A3:=A2.trans LE4 B2.n
  have B3:=B2.trans A2 kp4
  have hX4:Own h4 x (c'.cells T):=m4.own
  refine w_chk1 rfl rfl (show At h4 (.ptr x (0+4+0) 0 14) (c'.fr :: _) from (hX4.at rfl).fadr (d:=4) (show 4≤14 by omega)) (V.beq_refl _) ?_
  have ho1:=ow.rs.one
  have hce:allOne [V.int .i64 (.ofNat r),.int .i64 0,w,.nils]=true:=by simp only [allOne,ho1];rfl
  refine w_push (esz:=4) (v0:=.agg [V.int .i64 (.ofNat r),.int .i64 0,w,.nils]) rfl rfl rfl hce (fun _=>rfl) m4.fr (by show c'.lf.length+1≤_;omega) fun aa fr' h5 hv' hf'=>?_
  have hX5:Own h5 x [c'.m0,c'.m1,c'.m2,c'.m3,c'.fr,c'.ef,.int .i64 T.self,.int .i64 T.next,.int .i64 T.used,.int .u8 T.over,.int .i64 T.trap,.int .i64 T.role,c'.st,c'.fp]:=hX4.ext hf'.1 fun hm=>by have:=m4.frl x hm;have:=m4.lx;omega
  have oe:=hv'.rs.one
  repeat' (first|refine w_opk rfl rfl ?_)
  refine w_store rfl rfl hX5 (by rw [V.cells1 oe];rfl) (by rw [V.cells1 oe];simp only [allOne,oe]) (by decide) (by simp) fun h6 p1 p2 p3=>?_
  rw [V.cells1 oe] at p1
  have hvs:VasR (fun i=>labN L' h3 (slIds w) (2 * (fs.length+1)+4) i=0) h4 (framedT M r (offF f q)).vars (tl++List.replicate (nv - tl.length) zeroC):=by
   show VasR _ _ (offF f q++List.replicate (((M.fns[r]?).map fun f=>f.vars.toNat).getD 0 - (offF f q).length) (numV' 0)) _
   rw [hrp,hlo,htl]
   show VasR _ _ (offF f q++List.replicate (p.vars.toNat - q) (numV' 0)) _
   rw [hv]
   exact (kp4.vas LE4 tv).append (VasR.rep (VaR.num 1 0) _)
  obtain ⟨m6,kp6⟩:=m4.push (g:=framedT M r (offF f q)) ow hvs rfl hf' hv' (fun i hi=>by rw [show (withF T fs (cutF f q)).frames.length=fs.length+1 by show (fs++[cutF f q]).length=_;simp];exact labN_mem hi (.inl (wn i hi))) p2 p1
  have A4:=A3.trans (labN_old (h:=h4) (l:=slIds fr') (k:=2)) B3.n
  have B4:=B3.trans A3 kp6
  repeat' (first|refine w_e ?_|refine w_rt rfl ?_)
  exact ⟨_,_,m6,A4,B4⟩
end AmT
namespace AmT
open Go Am
set_option maxRecDepth 100000
set_option maxHeartbeats 4000000
variable {O:CallF}
theorem astop_ok (hO:OffAc O) {hb h0:Heap} {L:Lab} {x:Nat} {M:ModA} {T:Trn} {c:MC} {fs:List Frm} {f:Frm} {a b:Int} (m:Mac hb L h0 x M T c) (hT:T.frames=fs++[f]) (hp:c.fp=slotP c.fr fs.length) (hf:Fair T f) :
  WPc tab.get O 196 [.ptr x 0 0 14,.agg (insC ⟨26,a,b⟩)] h0 (fun _ h'=>Goes hb L h0 x M (endT T 2) h'):=by
 refine w_fn' (hO.ac _ _) rfl rfl (by simp only [c196,initV,nth] <;> rfl) ?_
 refine w_seq (w_reg (w_box rfl rfl rfl fun i2 h1 hI hi2 hE1=>?_))
 replace hI:Own h1 i2 (insC ⟨26,a,b⟩):=hI
 have m1:=m.ext0 hE1
 have hl2:labN L h0 [] 0 i2=0:=labN_new hi2 (by simp)
 have hst:=hf.st
 repeat' (first|refine w_seq ?_|refine w_reg ?_|refine w_e ?_|refine w_opk rfl rfl ?_)
 refine w_loadA rfl (hI.at rfl) rfl ?_
 refine w_callA [.ptr x 0 0 14,.agg (insC ⟨26,a,b⟩)] rfl ((wants_none hO (.inl rfl)).mono fun _ h2 ⟨e,hE2⟩=>?_)
 subst e
 have m2:=m1.ext0 hE2
 have A1:LabE L h0 (labN (labN L h0 [] 0) h1 [] 0):=labN_old.trans labN_old hE1.1
 have B1:Keep L h0 h2:=Keep.ext0 (hE1.trans hE2)
 refine w_callA [.ptr x 0 0 14,.int .i64 (.ofNat 0)] rfl ((takeM_ok hO.toOffMc m2 hT hp hst (Nat.zero_le _)).mono fun _ h3 ⟨v,tl,L',c',e,o,ol,tv,m3,lE,kp,ef,ep⟩=>?_)
 subst e
 have hI3:=kp.own (hI.ext0 hE2) (by rw [labN_old i2 hI.1];exact hl2)
 replace hI3:Own h3 i2 [.int .u8 26,.int .i64 a,.int .i64 b]:=hI3
 have A2:=A1.trans lE B1.n
 have B2:=B1.trans A1 kp
 repeat' (first|refine w_seq ?_|refine w_reg ?_|refine w_e ?_|refine w_rf rfl (by assumption) (by rfl) (by rfl) (by rfl) ?_|refine w_opk rfl rfl ?_|refine w_cond_f rfl ?_|refine w_skip ?_)
 refine w_block ?_
 repeat' (first|refine w_seq ?_|refine w_reg ?_|refine w_e ?_|refine w_opk rfl rfl ?_|refine w_cond_t rfl ?_|refine w_cond_f rfl ?_)
 refine w_callA [.ptr x 0 0 14,.int .u8 2] rfl ((endM_ok hO.toOffMc m3).mono fun _ h4 ⟨q1,q2⟩=>?_)
 repeat' (first|refine w_e ?_|refine w_rt rfl ?_)
 exact ⟨_,_,q1,A2.trans labN_old B2.n,B2.trans A2 q2⟩
def becT (T:Trn) (f:Frm) (r q:Nat):Trn:=if f.stack.length<q then trapT T 9 else { endT T 3 with role:=Int.ofNat r,state:=offF f q }
theorem abecome_ok (hO:OffAc O) {hb h0:Heap} {L:Lab} {x r q:Nat} {M:ModA} {T:Trn} {c:MC} {fs:List Frm} {f:Frm} {b:Int} {p:PartA} (m:Mac hb L h0 x M T c) (hT:T.frames=fs++[f]) (hp:c.fp=slotP c.fr fs.length) (hf:Fair T f) (hrp:M.roles[r]? = some p) (hq:p.params=Int.ofNat q) (hqb:q<1000000) :
  WPc tab.get O 196 [.ptr x 0 0 14,.agg (insC ⟨25,Int.ofNat r,b⟩)] h0 (fun _ h'=>Goes hb L h0 x M (becT T f r q) h'):=by
 refine w_fn' (hO.ac _ _) rfl rfl (by simp only [c196,initV,nth] <;> rfl) ?_
 refine w_seq (w_reg (w_box rfl rfl rfl fun i2 h1 hI hi2 hE1=>?_))
 replace hI:Own h1 i2 (insC ⟨25,Int.ofNat r,b⟩):=hI
 have m1:=m.ext0 hE1
 have hl2:labN L h0 [] 0 i2=0:=labN_new hi2 (by simp)
 have hst:=hf.st
 repeat' (first|refine w_seq ?_|refine w_reg ?_|refine w_e ?_|refine w_opk rfl rfl ?_)
 refine w_loadA rfl (hI.at rfl) rfl ?_
 refine w_callA [.ptr x 0 0 14,.agg (insC ⟨25,Int.ofNat r,b⟩)] rfl ((wants_role hO m1 (.inr rfl) hrp hq).mono fun _ h2 ⟨e,hE2⟩=>?_)
 subst e
 have m2:=m1.ext0 hE2
 have A1:LabE L h0 (labN (labN L h0 [] 0) h1 [] 0):=labN_old.trans labN_old hE1.1
 have B1:Keep L h0 h2:=Keep.ext0 (hE1.trans hE2)
 by_cases hs:f.stack.length<q
 ·have e9:becT T f r q=trapT T 9:=by unfold becT;rw [if_pos hs]
  rw [e9]
  refine w_callA [.ptr x 0 0 14,.int .i64 (.ofNat q)] rfl ((takeM_trap hO.toOffMc m2 hT hp hst hs (by omega) hf.nx hf.ef).mono fun _ h3 ⟨e,L',c',q1,q2,q3⟩=>?_)
  subst e
  repeat' (first|refine w_seq ?_|refine w_reg ?_|refine w_e ?_|refine w_opk rfl rfl ?_|refine w_cond_t rfl ?_|refine w_ret ?_|refine w_rt rfl ?_)
  exact ⟨L',c',q1,A1.trans q2 B1.n,B1.trans A1 q3⟩
 have e9:becT T f r q = { endT T 3 with role:=Int.ofNat r,state:=offF f q }:=by unfold becT;rw [if_neg hs]
 rw [e9]
 refine w_callA [.ptr x 0 0 14,.int .i64 (.ofNat q)] rfl ((takeM_ok hO.toOffMc m2 hT hp hst (by omega)).mono fun _ h3 ⟨v,tl,L',c',e,o,ol,tv,m3,lE,kp,ef,ep⟩=>?_)
 subst e
 have hI3:=kp.own (hI.ext0 hE2) (by rw [labN_old i2 hI.1];exact hl2)
 have hl3:L' i2=0:=by rw [lE i2 (by have:=hI.1;have:=hE2.1;omega),labN_old i2 hI.1];exact hl2
 replace hI3:Own h3 i2 [.int .u8 25,.int .i64 (.ofNat r),.int .i64 b]:=hI3
 have A2:=A1.trans lE B1.n
 have B2:=B1.trans A1 kp
 repeat' (first|refine w_seq ?_|refine w_reg ?_|refine w_e ?_|refine w_rf rfl (by assumption) (by rfl) (by rfl) (by rfl) ?_|refine w_opk rfl rfl ?_|refine w_cond_f rfl ?_|refine w_skip ?_)
 refine w_block ?_
 repeat' (first|refine w_seq ?_|refine w_reg ?_|refine w_e ?_|refine w_opk rfl rfl ?_|refine w_cond_t rfl ?_|refine w_cond_f rfl ?_)
 refine w_callA [.ptr x 0 0 14,.int .u8 3] rfl ((endM_ok hO.toOffMc m3).mono fun _ h4 ⟨m4,kp4⟩=>?_)
 have A3:=A2.trans (labN_old (h:=h3) (l:=[]) (k:=0)) B2.n
 have B3:=B2.trans A2 kp4
 have hI4:=kp4.own hI3 hl3
 have o4:RSz (fun i=>labN L' h3 [] 0 i=0) h4 4 v tl:=kp4.rsz labN_old ⟨o.rs,ol⟩
 have tv4:VasR (fun i=>labN L' h3 [] 0 i=0) h4 (offF f q) tl:=kp4.vas labN_old tv
 have hX:Own h4 x [c'.m0,c'.m1,c'.m2,c'.m3,.nils,c'.ef,.int .i64 T.self,.int .i64 T.next,.int .i64 T.used,.int .u8 3,.int .i64 T.trap,.int .i64 T.role,c'.st,c'.fp]:=m4.own
 have oe:=o4.1.one
 repeat' (first|refine w_reg ?_|refine w_e ?_|refine w_rf rfl (by assumption) (by rfl) (by rfl) (by rfl) ?_|refine w_opk rfl rfl ?_)
 refine w_store rfl rfl hX rfl rfl (by decide) (by simp) fun h5 k1 k2 k3=>?_
 replace k1:Own h5 x [c'.m0,c'.m1,c'.m2,c'.m3,.nils,c'.ef,.int .i64 T.self,.int .i64 T.next,.int .i64 T.used,.int .u8 3,.int .i64 T.trap,.int .i64 (.ofNat r),c'.st,c'.fp]:=k1
 clear hX
 repeat' (first|refine w_opk rfl rfl ?_)
 refine w_store rfl rfl k1 (by rw [V.cells1 oe];rfl) (by rw [V.cells1 oe];simp only [allOne,oe]) (by decide) (by simp) fun h6 y1 y2 y3=>?_
 rw [V.cells1 oe] at y1
 have m6:=m4.state (role':=Int.ofNat r) (k2.trans y2) y1 o4 tv4
 have kp6:Keep (labN L' h3 [] 0) h4 h6:=Keep.of (k2.trans y2) m4.x0
 repeat' (first|refine w_e ?_|refine w_rt rfl ?_)
 exact ⟨_,_,m6,A3.trans labN_old B3.n,B3.trans A3 kp6⟩
end AmT
namespace AmT
open Go Am
set_option maxRecDepth 100000
set_option maxHeartbeats 8000000
variable {O:CallF}
theorem dact_ok (hO:OffDo O) {hb h0:Heap} {L:Lab} {x:Nat} {M:ModA} {T T':Trn} {c:MC} {fs:List Frm} {op a b:Int} (m:Mac hb L h0 x M T c) (hp:c.fp=slotP c.fr fs.length) (ho:op=22∨op=23∨op=24∨op=25∨op=26∨op=33∨op=34)
  (hA:∀ {h:Heap} {L:Lab} {c:MC},Mac hb L h x M T c→c.fp=slotP c.fr fs.length→WPc tab.get O 196 [.ptr x 0 0 14,.agg (insC ⟨op,a,b⟩)] h (fun _ h'=>Goes hb L h x M T' h')) :
  WPc tab.get O 130 [.ptr x 0 0 14,.agg (insC ⟨op,a,b⟩)] h0 (fun _ h'=>Goes hb L h0 x M T' h'):=by
 refine w_fn' (hO.d _ _) rfl rfl (by simp only [c130,initV,nth] <;> rfl) ?_
 refine w_seq (w_reg (w_box rfl rfl rfl fun i2 h1 hI hi2 hE1=>?_))
 replace hI:Own h1 i2 [.int .u8 op,.int .i64 a,.int .i64 b]:=hI
 have m1:=m.ext0 hE1
 rcases ho with rfl | rfl | rfl | rfl | rfl | rfl | rfl
 all_goals (repeat' (first|refine w_seq ?_|refine w_reg ?_|refine w_e ?_|refine w_rf rfl (by assumption) (by rfl) (by rfl) (by rfl) ?_))
 all_goals refine w_block ?_
 all_goals (repeat' (first|refine w_seq ?_|refine w_reg ?_|refine w_e ?_|refine w_opk rfl rfl ?_|refine w_cond_t rfl ?_|refine w_cond_f rfl ?_|refine w_skip ?_))
 all_goals
  refine w_loadA rfl (hI.at rfl) rfl ?_
  refine w_call rfl ((hA m1 hp).mono fun _ h2 ⟨L',c',q1,q2,q3⟩=>?_)
 all_goals (repeat' (first|refine w_e ?_|refine w_rt rfl ?_))
 all_goals exact ⟨L',c',q1,labN_old.trans q2 hE1.1,(Keep.ext0 hE1).trans labN_old q3⟩
end AmT
