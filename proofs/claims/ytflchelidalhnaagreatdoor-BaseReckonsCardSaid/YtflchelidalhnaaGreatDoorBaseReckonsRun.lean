/-
  The interpreter under the abstract machine, part BaseReckonsRun. Conditions: those that each theorem states.
-/
import Derived.Test.YtflchelidalhnaaGreatDoorIE
namespace AmT
open Go Am
set_option maxRecDepth 100000
set_option maxHeartbeats 8000000
set_option linter.unusedSimpArgs false
set_option linter.unusedVariables false
variable {O : CallF}
structure OffReck (O : CallF) : Prop where
 pl : OffPl O
 it : ∀ a h, O 16 a h = none
 se : ∀ a h, O 22 a h = none
 aw : ∀ {h : Heap}, WPc tab.get O 20 [] h (fun r h' => r = .bool true ∧ Ext h h')
def Wants (o a b want trap : Int) : Prop := trap = (arithT o a b).2 ∧ (trap = 0 → want = (arithT o a b).1)
theorem wants_add {a b : Int} : Wants 4 a b (IntKind.i64.wrap (a + b)) (if a + b < -9223372036854775808 ∨ 9223372036854775807 < a + b then 4 else 0) := by
 unfold Wants
 show _ = (fit (a + b)).2 ∧ (_ → _ = (fit (a + b)).1)
 by_cases h : a + b < -9223372036854775808 ∨ 9223372036854775807 < a + b
 ·rw [if_pos h, fit_over h]; exact ⟨rfl, fun h => absurd h (by decide)⟩
 ·rw [if_neg h, fit_in h]; exact ⟨rfl, fun _ => rfl⟩
theorem wants_sub {a b : Int} : Wants 5 a b (IntKind.i64.wrap (a - b)) (if a - b < -9223372036854775808 ∨ 9223372036854775807 < a - b then 4 else 0) := by
 unfold Wants
 show _ = (fit (a - b)).2 ∧ (_ → _ = (fit (a - b)).1)
 by_cases h : a - b < -9223372036854775808 ∨ 9223372036854775807 < a - b
 ·rw [if_pos h, fit_over h]; exact ⟨rfl, fun h => absurd h (by decide)⟩
 ·rw [if_neg h, fit_in h]; exact ⟨rfl, fun _ => rfl⟩
theorem wants_mul {a b : Int} : Wants 6 a b (IntKind.i64.wrap (a * b)) (if a * b < -9223372036854775808 ∨ 9223372036854775807 < a * b then 4 else 0) := by
 unfold Wants
 show _ = (fit (a * b)).2 ∧ (_ → _ = (fit (a * b)).1)
 by_cases h : a * b < -9223372036854775808 ∨ 9223372036854775807 < a * b
 ·rw [if_pos h, fit_over h]; exact ⟨rfl, fun h => absurd h (by decide)⟩
 ·rw [if_neg h, fit_in h]; exact ⟨rfl, fun _ => rfl⟩
theorem iLt_t {a b : Int} (h : a < b) : iLt a b = true := by rw [iLt_eq]; exact decide_eq_true h
theorem iLt_f {a b : Int} (h : ¬ a < b) : iLt a b = false := by rw [iLt_eq]; exact decide_eq_false h
theorem iEq_tt {a b : Int} (h : a = b) : iEq a b = true := by rw [iEq_eq]; simpa using h
theorem iEq_ff {a b : Int} (h : a ≠ b) : iEq a b = false := by rw [iEq_eq]; exact Bool.eq_false_iff.2 fun q => h (by simpa using q)
theorem mul_quo {a b : Int} (ha : Am.i64 a) (h0 : a ≠ 0) (hov : a * b < -9223372036854775808 ∨ 9223372036854775807 < a * b) (hq : IntKind.i64.wrap ((IntKind.i64.wrap (a * b)).tdiv a) = b) : a = -1 ∧ b = -9223372036854775808 := by
 have hp := wrap_i64_eq (a * b)
 generalize hw : IntKind.i64.wrap (a * b) = w at *
 have hwr : Am.i64 w := by unfold Am.i64; split at hp <;> omega
 by_cases hm : a = -1 ∧ w = -9223372036854775808
 ·obtain ⟨rfl, rfl⟩ := hm
  exact ⟨rfl, by rw [← hq]; rfl⟩
 ·have hin := tdiv_in hwr h0 hm
  rw [wrap_i64_of (by omega) (by omega)] at hq
  have e := Int.mul_tdiv_add_tmod w a
  rw [hq] at e
  have hn := Int.natAbs_tmod w a
  have hlt : (w.tmod a).natAbs < a.natAbs := by rw [hn]; exact Nat.mod_lt _ (by omega)
  obtain ⟨a1, a2⟩ := ha
  exfalso
  generalize a * b = p at *
  generalize w.tmod a = m at *
  split at hp <;> omega
theorem mul_quo2 {a b : Int} (hb : Am.i64 b) (h0 : a ≠ 0) (hin : ¬(a * b < -9223372036854775808 ∨ 9223372036854775807 < a * b)) : IntKind.i64.wrap ((IntKind.i64.wrap (a * b)).tdiv a) = b := by
 rw [wrap_i64_of (a := a * b) (by omega) (by omega), Int.mul_tdiv_cancel_left _ h0, wrap_i64_of hb.1 hb.2]
theorem sent_ok (hO : ∀ a h, O 22 a h = none) {h0 : Heap} {vf ve vs av vv : V} {n1 n2 u n3 n4 to_ ro want : Int} {tg s : List UInt8} (of_ : vf.one = true) (os : vs.one = true) (ov : vv.one = true) (re : RS h0 4 ve [[.int .i64 to_, .int .i64 ro, .str tg, av]]) (ra : RS h0 4 av [[.int .u8 1, .int .i64 want, .str s, vv]]) :
  WPc tab.get O 22 [.agg [vf, ve, .int .i64 n1, .int .i64 n2, .int .i64 u, .int .u8 1, .int .i64 n3, .int .i64 n4, vs]] h0 (fun r h' => r = .tuple [.agg [.int .u8 1, .int .i64 want, .str s, vv], .bool true] ∧ Ext h0 h') := by
 have oe := re.one
 refine w_fn' (hO _ _) rfl rfl (by simp only [c22, initV, nth] <;> rfl) ?_
 refine w_seq (w_reg (w_box rfl rfl (by show allOne [vf, ve, .int .i64 n1, .int .i64 n2, .int .i64 u, .int .u8 1, .int .i64 n3, .int .i64 n4, vs] = true; simp only [allOne, of_, os, oe]; rfl) fun iA h1 hA hiA hE1 => ?_))
 refine w_alloc fun iR h2 hR hiR hE2 => ?_
 have E2 := hE1.trans hE2
 have n1' := hE1.1
 replace hA : Own h2 iA [vf, ve, .int .i64 n1, .int .i64 n2, .int .i64 u, .int .u8 1, .int .i64 n3, .int .i64 n4, vs] := hA.ext0 hE2
 have re2 := re.ext0 E2
 have ra2 := ra.ext0 E2
 have hS2 := slot_at (j := 0) re2 (by simp)
 repeat' (first | refine w_seq ?_ | refine w_reg ?_ | refine w_e ?_ | refine w_rf rfl (by assumption) (by rfl) (by rfl) (by rfl) ?_ | refine w_rfg rfl rfl (by assumption) (by rfl) (by rfl) (by rfl) (by rfl) ?_ | refine w_on rfl ?_ | refine w_len rfl (by assumption) ?_ | refine w_opk rfl rfl ?_)
 refine w_iadrS (j := 0) rfl rfl re2 (by simp) ?_
 repeat' (first | refine w_on rfl ?_)
 refine w_fadr rfl hS2 rfl fun hS21 => ?_
 repeat' (first | refine w_on rfl ?_)
 refine w_load1 (c := []) rfl hS21 rfl ?_
 repeat' (first | refine w_seq ?_ | refine w_reg ?_ | refine w_e ?_ | refine w_rf rfl (by assumption) (by rfl) (by rfl) (by rfl) ?_ | refine w_on rfl ?_ | refine w_len rfl (by assumption) ?_ | refine w_opk rfl rfl ?_ | refine w_cond_f rfl ?_ | refine w_skip ?_)
 refine w_iadrS (j := 0) rfl rfl re2 (by simp) ?_
 skip
 refine w_fadr rfl hS2 rfl fun hS22 => ?_
 skip
 refine w_load1 (c := []) rfl hS22 rfl ?_
 skip
 refine w_iadrS (j := 0) rfl rfl ra2 (by simp) ?_
 skip
 refine w_loadA rfl (slot_at (j := 0) ra2 (by simp)) rfl ?_
 refine w_store rfl rfl hR rfl (by show allOne [.int .u8 1, .int .i64 want, .str s, vv] = true; simp only [allOne, ov]; rfl) (by decide) (by simp) fun h3 hR3 hE3 hn3 => ?_
 replace hR3 : Own h3 iR [.int .u8 1, .int .i64 want, .str s, vv] := hR3
 repeat' (first | refine w_e ?_ | refine w_opk rfl rfl ?_ | refine w_ret ?_)
 exact w_rt (l := [.agg [.int .u8 1, .int .i64 want, .str s, vv], .bool true]) (tail4 hR3 rfl rfl rfl) ⟨rfl, E2.step hE3 fun jd hjd => by simp at hjd; exact .inr (by omega)⟩
theorem baseReckons_ok (hO : OffReck O) (hL : ∀ a h, O 4 a h = none) (t : ∀ o, (o = 4 ∨ o = 5 ∨ o = 6 ∨ o = 7 ∨ o = 8) → TextOk O (preR ++ signR o ++ postR) (modC (modK o)) (modK o)) {a b : Int} (ha : Am.i64 a) (hb : Am.i64 b) {n : Nat} (hn : n < 256) {h0 : Heap} :
  WPc tab.get O 4 [.int .i64 a, .int .i64 b, .int .u8 (.ofNat n)] h0 (fun r _ => r = .bool true) := by
 refine w_fn' (hL _ _) rfl rfl (by simp only [c4, initV, nth] <;> rfl) ?_
 have hw5 : n % 5 < 5 := Nat.mod_lt _ (by decide)
 have hwn : (Int.ofNat n).tmod (Int.ofNat 5) = Int.ofNat (n % 5) := rfl
 generalize n % 5 = w at *
 obtain ⟨o, how, ho⟩ : ∃ o : Int, o = (w : Int) + 4 ∧ (o = 4 ∨ o = 5 ∨ o = 6 ∨ o = 7 ∨ o = 8) := ⟨_, rfl, by omega⟩
 repeat' (first | refine w_seq ?_ | refine w_reg ?_ | refine w_e ?_ | refine w_opk rfl rfl ?_)
 refine w_bslice [[.str [43]], [.str [45]], [.str [42]], [.str [47]], [.str [37]]] rfl rfl rfl rfl (by simp) fun sv h1 hsv hf1 => ?_
 repeat' (first | refine w_opk rfl rfl ?_)
 rw [hwn]
 have hsg : ∃ hw : w < [[V.str [43]], [.str [45]], [.str [42]], [.str [47]], [.str [37]]].length, [[V.str [43]], [.str [45]], [.str [42]], [.str [47]], [.str [37]]][w] = [.str (signR o)] := by
  have : w = 0 ∨ w = 1 ∨ w = 2 ∨ w = 3 ∨ w = 4 := by omega
  rcases this with rfl | rfl | rfl | rfl | rfl <;> subst how <;> exact ⟨by decide, rfl⟩
 obtain ⟨hw, hsg⟩ := hsg
 refine w_iadrS rfl rfl hsv.rs hw ?_
 have hS := slot_at hsv.rs hw
 rw [hsg] at hS
 refine w_load1 (c := []) rfl hS rfl ?_
 have hsl : (signR o).length ≤ 10 := by rcases ho with rfl | rfl | rfl | rfl | rfl <;> decide
 repeat' (first | refine w_seq ?_ | refine w_reg ?_ | refine w_e ?_ | refine w_opk rfl rfl ?_)
 refine w_catS rfl rfl (by show preR.length + (signR o).length ≤ _; have : preR.length = 43 := rfl; omega) ?_
 refine w_catS rfl rfl (by show (preR ++ signR o).length + postR.length ≤ _; rw [List.length_append]; have : preR.length = 43 := rfl; have : postR.length = 8 := rfl; omega) ?_
 repeat' (first | refine w_opk rfl rfl ?_)
 refine w_bslice [[.int .i64 a], [.int .i64 b]] rfl rfl rfl rfl (by simp) fun v1 h2 hv1 hf2 => ?_
 refine w_callA [v1] rfl ((ints_ok hO.it (l := [a, b]) hv1.rs (by simp)).mono fun w' h3 ⟨hw', hE3, hids⟩ => ?_)
 have hov : (begT (modK o) 0 partK [] goT [numV' a, numV' b] 5 1).over = 0 := by rcases ho with rfl | rfl | rfl | rfl | rfl <;> rfl
 have hrp : (modK o).roles[0]? = some partK := rfl
 skip
 refine w_callA [.str (preR ++ signR o ++ postR), w', .int .i64 (.ofNat 100)] rfl ((played_ok hO.pl (Z := fun i => i < h3.n) (p := partK) (args := [numV' a, numV' b]) (t o ho) (fun i hi => hi) hrp rfl ⟨hw'.rs, hw'.rs.lt⟩ (vas_nums [a, b]) (fun x hx => by
   simp only [List.mem_cons, List.not_mem_nil, or_false] at hx
   rcases hx with rfl | rfl
   ·exact okNum ⟨ha.1, by have := ha.2; omega⟩
   ·exact okNum ⟨hb.1, by have := hb.2; omega⟩) (by simp) hov (by decide)).mono fun _ h4 ⟨c, e, hT, hE4⟩ => ?_)
 subst e
 have hts := hT.shape
 replace hT : TrnI (fun i => i < h4.n) h4 c (turnR o a b) := hT.mono fun j _ hj => hj
 repeat' (first | refine w_opk rfl rfl ?_)
 refine w_alloc fun iT h5 hTo hiT hE5 => ?_
 refine w_store rfl rfl hTo hts.1 hts.2 (by decide) (by simp) fun h6 hT6 hE6 hn6 => ?_
 have E6 : Ext h4 h6 := hE5.step hE6 fun q hq => by simp at hq; exact .inr (by omega)
 replace hT6 : Own h6 iT c := by
  have : splice [V.nils, V.nils, nI 0, nI 0, nI 0, nB 0, nI 0, nI 0, V.nils] 0 c = c := over_all (by rw [hts.1]; rfl)
  rw [← this]; exact hT6
 replace hT := hT.ext0 E6
 repeat' (first | refine w_seq ?_ | refine w_reg ?_ | refine w_e ?_ | refine w_opk rfl rfl ?_ | refine w_cond_f rfl ?_ | refine w_skip ?_)
 rw [hwn]
 refine w_block_cut (fun vs h => h = h6 ∧ ∃ j3 j4 j5 j6 j7 j8 j10 j11 j12 j13 j14 j15 j16 j17 j18 j19 j21 j23 j24 want trap, vs = [.int .i64 a, .int .i64 b, .int .u8 (.ofNat n), j3, j4, j5, j6, j7, j8, .int .i64 want, j10, j11, j12, j13, j14, j15, j16, j17, j18, j19, .int .i64 trap, j21, .ptr iT 0 0 9, j23, j24] ∧ Wants o a b want trap) ?_ ?_
 ·have h5 : w = 0 ∨ w = 1 ∨ w = 2 ∨ w = 3 ∨ w = 4 := by omega
  rcases h5 with rfl | rfl | rfl | rfl | rfl
  ·obtain rfl : o = 4 := how
   repeat' (first | refine w_seq ?_ | refine w_reg ?_ | refine w_e ?_ | refine w_opk rfl rfl ?_ | refine w_cond_t rfl ?_)
   rw [wrapK_eq]
   have hs := wrap_i64_eq (a + b)
   have hW := wants_add (a := a) (b := b)
   unfold Am.i64 at ha hb
   generalize IntKind.i64.wrap (a + b) = s at *
   by_cases hof : a + b < -9223372036854775808 ∨ 9223372036854775807 < a + b
   ·rw [if_pos hof] at hW
    have hbn : 0 < b ∨ b < 0 := by omega
    rcases hbn with hb0 | hb0
    ·rw [show iLt a s = false from iLt_f (by split at hs <;> omega), show iLt (Int.ofNat 0) b = true from iLt_t (show (0 : Int) < b by omega)]
     repeat' (first | refine w_e ?_ | refine w_on rfl ?_ | refine w_opk rfl rfl ?_)
     rw [show iEq b (Int.ofNat 0) = false from iEq_ff (show b ≠ 0 by omega)]
     repeat' (first | refine w_reg ?_ | refine w_e ?_ | refine w_opk rfl rfl ?_ | refine w_cond_t rfl ?_)
     exact ⟨rfl, _, _, _, _, _, _, _, _, _, _, _, _, _, _, _, _, _, _, _, _, _, rfl, hW⟩
    ·rw [show iLt a s = true from iLt_t (by split at hs <;> omega), show iLt (Int.ofNat 0) b = false from iLt_f (show ¬ (0 : Int) < b by omega)]
     repeat' (first | refine w_e ?_ | refine w_on rfl ?_ | refine w_opk rfl rfl ?_)
     rw [show iEq b (Int.ofNat 0) = false from iEq_ff (show b ≠ 0 by omega)]
     repeat' (first | refine w_reg ?_ | refine w_e ?_ | refine w_opk rfl rfl ?_ | refine w_cond_t rfl ?_)
     exact ⟨rfl, _, _, _, _, _, _, _, _, _, _, _, _, _, _, _, _, _, _, _, _, _, rfl, hW⟩
   ·rw [if_neg hof] at hW
    have hbn : 0 < b ∨ b ≤ 0 := by omega
    rcases hbn with hb0 | hb0
    ·rw [show iLt a s = true from iLt_t (by split at hs <;> omega), show iLt (Int.ofNat 0) b = true from iLt_t (show (0 : Int) < b by omega)]
     repeat' (first | refine w_e ?_ | refine w_off rfl ?_ | refine w_opk rfl rfl ?_ | refine w_cond_f rfl ?_ | refine w_skip ?_)
     exact ⟨rfl, _, _, _, _, _, _, _, _, _, _, _, _, _, _, _, _, _, _, _, _, _, rfl, hW⟩
    ·rw [show iLt a s = false from iLt_f (by split at hs <;> omega), show iLt (Int.ofNat 0) b = false from iLt_f (show ¬ (0 : Int) < b by omega)]
     repeat' (first | refine w_e ?_ | refine w_off rfl ?_ | refine w_opk rfl rfl ?_ | refine w_cond_f rfl ?_ | refine w_skip ?_)
     exact ⟨rfl, _, _, _, _, _, _, _, _, _, _, _, _, _, _, _, _, _, _, _, _, _, rfl, hW⟩
  ·obtain rfl : o = 5 := how
   repeat' (first | refine w_seq ?_ | refine w_reg ?_ | refine w_e ?_ | refine w_opk rfl rfl ?_ | refine w_cond_t rfl ?_ | refine w_cond_f rfl ?_)
   rw [wrapK_eq]
   have hs := wrap_i64_eq (a - b)
   have hW := wants_sub (a := a) (b := b)
   unfold Am.i64 at ha hb
   generalize IntKind.i64.wrap (a - b) = s at *
   by_cases hof : a - b < -9223372036854775808 ∨ 9223372036854775807 < a - b
   ·rw [if_pos hof] at hW
    have hbn : 0 < b ∨ b < 0 := by omega
    rcases hbn with hb0 | hb0
    ·rw [show iLt s a = false from iLt_f (by split at hs <;> omega), show iLt (Int.ofNat 0) b = true from iLt_t (show (0 : Int) < b by omega)]
     repeat' (first | refine w_e ?_ | refine w_on rfl ?_ | refine w_opk rfl rfl ?_)
     rw [show iEq b (Int.ofNat 0) = false from iEq_ff (show b ≠ 0 by omega)]
     repeat' (first | refine w_reg ?_ | refine w_e ?_ | refine w_opk rfl rfl ?_ | refine w_cond_t rfl ?_)
     exact ⟨rfl, _, _, _, _, _, _, _, _, _, _, _, _, _, _, _, _, _, _, _, _, _, rfl, hW⟩
    ·rw [show iLt s a = true from iLt_t (by split at hs <;> omega), show iLt (Int.ofNat 0) b = false from iLt_f (show ¬ (0 : Int) < b by omega)]
     repeat' (first | refine w_e ?_ | refine w_on rfl ?_ | refine w_opk rfl rfl ?_)
     rw [show iEq b (Int.ofNat 0) = false from iEq_ff (show b ≠ 0 by omega)]
     repeat' (first | refine w_reg ?_ | refine w_e ?_ | refine w_opk rfl rfl ?_ | refine w_cond_t rfl ?_)
     exact ⟨rfl, _, _, _, _, _, _, _, _, _, _, _, _, _, _, _, _, _, _, _, _, _, rfl, hW⟩
   ·rw [if_neg hof] at hW
    have hbn : 0 < b ∨ b ≤ 0 := by omega
    rcases hbn with hb0 | hb0
    ·rw [show iLt s a = true from iLt_t (by split at hs <;> omega), show iLt (Int.ofNat 0) b = true from iLt_t (show (0 : Int) < b by omega)]
     repeat' (first | refine w_e ?_ | refine w_off rfl ?_ | refine w_opk rfl rfl ?_ | refine w_cond_f rfl ?_ | refine w_skip ?_)
     exact ⟨rfl, _, _, _, _, _, _, _, _, _, _, _, _, _, _, _, _, _, _, _, _, _, rfl, hW⟩
    ·rw [show iLt s a = false from iLt_f (by split at hs <;> omega), show iLt (Int.ofNat 0) b = false from iLt_f (show ¬ (0 : Int) < b by omega)]
     repeat' (first | refine w_e ?_ | refine w_off rfl ?_ | refine w_opk rfl rfl ?_ | refine w_cond_f rfl ?_ | refine w_skip ?_)
     exact ⟨rfl, _, _, _, _, _, _, _, _, _, _, _, _, _, _, _, _, _, _, _, _, _, rfl, hW⟩
  ·obtain rfl : o = 6 := how
   repeat' (first | refine w_seq ?_ | refine w_reg ?_ | refine w_e ?_ | refine w_opk rfl rfl ?_ | refine w_cond_t rfl ?_ | refine w_cond_f rfl ?_)
   rw [wrapK_eq, show a.mul b = a * b from rfl]
   have hW := wants_mul (a := a) (b := b)
   by_cases ha0 : a = 0
   ·rw [show iEq a (Int.ofNat 0) = true from iEq_tt ha0]
    rw [if_neg (by subst ha0; simp)] at hW
    repeat' (first | refine w_e ?_ | refine w_off rfl ?_ | refine w_opk rfl rfl ?_ | refine w_cond_f rfl ?_ | refine w_skip ?_)
    exact ⟨rfl, _, _, _, _, _, _, _, _, _, _, _, _, _, _, _, _, _, _, _, _, _, rfl, hW⟩
   ·rw [show iEq a (Int.ofNat 0) = false from iEq_ff ha0]
    repeat' (first | refine w_on rfl ?_ | refine w_opk rfl rfl ?_)
    refine w_quo rfl rfl ha0 ?_
    repeat' (first | refine w_on rfl ?_ | refine w_opk rfl rfl ?_)
    by_cases hof : a * b < -9223372036854775808 ∨ 9223372036854775807 < a * b
    ·rw [if_pos hof] at hW
     by_cases hq : IntKind.i64.wrap ((IntKind.i64.wrap (a * b)).tdiv a) = b
     ·obtain ⟨h1, h2⟩ := mul_quo ha ha0 hof hq
      rw [show iEq (IntKind.i64.wrap ((IntKind.i64.wrap (a * b)).tdiv a)) b = true from iEq_tt hq]
      repeat' (first | refine w_on rfl ?_ | refine w_opk rfl rfl ?_)
      rw [show iEq a (Int.negSucc 0) = true from iEq_tt h1]
      repeat' (first | refine w_e ?_ | refine w_on rfl ?_ | refine w_opk rfl rfl ?_)
      rw [show iEq b (Int.negSucc 9223372036854775807) = true from iEq_tt h2]
      repeat' (first | refine w_reg ?_ | refine w_e ?_ | refine w_opk rfl rfl ?_ | refine w_cond_t rfl ?_)
      exact ⟨rfl, _, _, _, _, _, _, _, _, _, _, _, _, _, _, _, _, _, _, _, _, _, rfl, hW⟩
     ·rw [show iEq (IntKind.i64.wrap ((IntKind.i64.wrap (a * b)).tdiv a)) b = false from iEq_ff hq]
      repeat' (first | refine w_reg ?_ | refine w_e ?_ | refine w_off rfl ?_ | refine w_on rfl ?_ | refine w_opk rfl rfl ?_ | refine w_cond_t rfl ?_)
      exact ⟨rfl, _, _, _, _, _, _, _, _, _, _, _, _, _, _, _, _, _, _, _, _, _, rfl, hW⟩
    ·rw [if_neg hof] at hW
     rw [show iEq (IntKind.i64.wrap ((IntKind.i64.wrap (a * b)).tdiv a)) b = true from iEq_tt (mul_quo2 hb ha0 hof)]
     repeat' (first | refine w_on rfl ?_ | refine w_opk rfl rfl ?_)
     by_cases ha1 : a = -1
     ·rw [show iEq a (Int.negSucc 0) = true from iEq_tt ha1]
      repeat' (first | refine w_e ?_ | refine w_on rfl ?_ | refine w_opk rfl rfl ?_)
      rw [show iEq b (Int.negSucc 9223372036854775807) = false from iEq_ff (fun h2 => hof (by subst ha1 h2; decide))]
      repeat' (first | refine w_cond_f rfl ?_ | refine w_skip ?_)
      exact ⟨rfl, _, _, _, _, _, _, _, _, _, _, _, _, _, _, _, _, _, _, _, _, _, rfl, hW⟩
     ·rw [show iEq a (Int.negSucc 0) = false from iEq_ff ha1]
      repeat' (first | refine w_e ?_ | refine w_off rfl ?_ | refine w_on rfl ?_ | refine w_opk rfl rfl ?_ | refine w_cond_f rfl ?_ | refine w_skip ?_)
      exact ⟨rfl, _, _, _, _, _, _, _, _, _, _, _, _, _, _, _, _, _, _, _, _, _, rfl, hW⟩
  ·obtain rfl : o = 7 := how
   repeat' (first | refine w_seq ?_ | refine w_reg ?_ | refine w_e ?_ | refine w_opk rfl rfl ?_ | refine w_cond_f rfl ?_)
   refine w_block ?_
   repeat' (first | refine w_seq ?_ | refine w_reg ?_ | refine w_e ?_ | refine w_opk rfl rfl ?_)
   by_cases hb0 : b = 0
   ·rw [show iEq b (Int.ofNat 0) = true from iEq_tt hb0]
    have hW : Wants 7 a b 0 3 := by unfold Wants; rw [div0 (by decide) hb0]; exact ⟨rfl, fun h => absurd h (by decide)⟩
    repeat' (first | refine w_reg ?_ | refine w_e ?_ | refine w_opk rfl rfl ?_ | refine w_cond_t rfl ?_)
    exact ⟨rfl, _, _, _, _, _, _, _, _, _, _, _, _, _, _, _, _, _, _, _, _, _, rfl, hW⟩
   rw [show iEq b (Int.ofNat 0) = false from iEq_ff hb0]
   repeat' (first | refine w_seq ?_ | refine w_reg ?_ | refine w_opk rfl rfl ?_ | refine w_cond_f rfl ?_)
   by_cases hb1 : b = -1
   ·rw [show iEq b (Int.negSucc 0) = true from iEq_tt hb1]
    repeat' (first | refine w_on rfl ?_ | refine w_opk rfl rfl ?_)
    rw [hwn]
    repeat' (first | refine w_e ?_ | refine w_on rfl ?_ | refine w_opk rfl rfl ?_)
    by_cases hm : a = -9223372036854775808
    ·rw [show iEq a (Int.negSucc 9223372036854775807) = true from iEq_tt hm]
     have hW : Wants 7 a b 0 4 := by unfold Wants; rw [divMin rfl hb1 hm]; exact ⟨rfl, fun h => absurd h (by decide)⟩
     repeat' (first | refine w_reg ?_ | refine w_e ?_ | refine w_opk rfl rfl ?_ | refine w_cond_t rfl ?_)
     exact ⟨rfl, _, _, _, _, _, _, _, _, _, _, _, _, _, _, _, _, _, _, _, _, _, rfl, hW⟩
    ·rw [show iEq a (Int.negSucc 9223372036854775807) = false from iEq_ff hm]
     have hW : Wants 7 a b (IntKind.i64.wrap (0 - a)) 0 := by unfold Wants; rw [divNeg ha rfl hb1 hm]; exact ⟨rfl, fun _ => rfl⟩
     repeat' (first | refine w_seq ?_ | refine w_reg ?_ | refine w_e ?_ | refine w_opk rfl rfl ?_ | refine w_cond_f rfl ?_)
     rw [show iEq b (Int.negSucc 0) = true from iEq_tt hb1]
     repeat' (first | refine w_seq ?_ | refine w_reg ?_ | refine w_e ?_ | refine w_opk rfl rfl ?_ | refine w_cond_t rfl ?_)
     rw [hwn]
     repeat' (first | refine w_cond_f rfl ?_ | refine w_skip ?_)
     exact ⟨rfl, _, _, _, _, _, _, _, _, _, _, _, _, _, _, _, _, _, _, _, _, _, rfl, hW⟩
   ·rw [show iEq b (Int.negSucc 0) = false from iEq_ff hb1]
    have hW : Wants 7 a b (IntKind.i64.wrap (a.tdiv b)) 0 := by unfold Wants; rw [divQ ha rfl hb0 hb1]; exact ⟨rfl, fun _ => rfl⟩
    repeat' (first | refine w_seq ?_ | refine w_reg ?_ | refine w_e ?_ | refine w_off rfl ?_ | refine w_opk rfl rfl ?_ | refine w_cond_f rfl ?_)
    rw [show iEq b (Int.negSucc 0) = false from iEq_ff hb1]
    repeat' (first | refine w_seq ?_ | refine w_reg ?_ | refine w_e ?_ | refine w_opk rfl rfl ?_ | refine w_cond_f rfl ?_)
    rw [hwn]
    repeat' (first | refine w_reg ?_ | refine w_opk rfl rfl ?_ | refine w_cond_t rfl ?_)
    refine w_quo rfl rfl hb0 ?_
    repeat' (first | refine w_e ?_ | refine w_opk rfl rfl ?_)
    exact ⟨rfl, _, _, _, _, _, _, _, _, _, _, _, _, _, _, _, _, _, _, _, _, _, rfl, hW⟩
  ·obtain rfl : o = 8 := how
   repeat' (first | refine w_seq ?_ | refine w_reg ?_ | refine w_e ?_ | refine w_opk rfl rfl ?_ | refine w_cond_f rfl ?_)
   refine w_block ?_
   repeat' (first | refine w_seq ?_ | refine w_reg ?_ | refine w_e ?_ | refine w_opk rfl rfl ?_)
   by_cases hb0 : b = 0
   ·rw [show iEq b (Int.ofNat 0) = true from iEq_tt hb0]
    have hW : Wants 8 a b 0 3 := by unfold Wants; rw [div0 (by decide) hb0]; exact ⟨rfl, fun h => absurd h (by decide)⟩
    repeat' (first | refine w_reg ?_ | refine w_e ?_ | refine w_opk rfl rfl ?_ | refine w_cond_t rfl ?_)
    exact ⟨rfl, _, _, _, _, _, _, _, _, _, _, _, _, _, _, _, _, _, _, _, _, _, rfl, hW⟩
   rw [show iEq b (Int.ofNat 0) = false from iEq_ff hb0]
   repeat' (first | refine w_seq ?_ | refine w_reg ?_ | refine w_opk rfl rfl ?_ | refine w_cond_f rfl ?_)
   by_cases hb1 : b = -1
   ·rw [show iEq b (Int.negSucc 0) = true from iEq_tt hb1]
    repeat' (first | refine w_on rfl ?_ | refine w_opk rfl rfl ?_)
    rw [hwn]
    repeat' (first | refine w_seq ?_ | refine w_reg ?_ | refine w_e ?_ | refine w_off rfl ?_ | refine w_opk rfl rfl ?_ | refine w_cond_f rfl ?_)
    have hW : Wants 8 a b 0 0 := by unfold Wants; rw [modN rfl hb1]; exact ⟨rfl, fun _ => rfl⟩
    rw [show iEq b (Int.negSucc 0) = true from iEq_tt hb1]
    repeat' (first | refine w_seq ?_ | refine w_reg ?_ | refine w_e ?_ | refine w_opk rfl rfl ?_ | refine w_cond_t rfl ?_)
    rw [hwn]
    repeat' (first | refine w_reg ?_ | refine w_e ?_ | refine w_opk rfl rfl ?_ | refine w_cond_t rfl ?_)
    exact ⟨rfl, _, _, _, _, _, _, _, _, _, _, _, _, _, _, _, _, _, _, _, _, _, rfl, hW⟩
   ·rw [show iEq b (Int.negSucc 0) = false from iEq_ff hb1]
    have hW : Wants 8 a b (a.tmod b) 0 := by unfold Wants; rw [modQ rfl hb0]; exact ⟨rfl, fun _ => rfl⟩
    repeat' (first | refine w_seq ?_ | refine w_reg ?_ | refine w_e ?_ | refine w_off rfl ?_ | refine w_opk rfl rfl ?_ | refine w_cond_f rfl ?_)
    rw [show iEq b (Int.negSucc 0) = false from iEq_ff hb1]
    repeat' (first | refine w_seq ?_ | refine w_reg ?_ | refine w_e ?_ | refine w_opk rfl rfl ?_ | refine w_cond_f rfl ?_)
    rw [hwn]
    repeat' (first | refine w_reg ?_ | refine w_opk rfl rfl ?_ | refine w_cond_f rfl ?_)
    refine w_rem rfl rfl hb0 ?_
    repeat' (first | refine w_e ?_ | refine w_opk rfl rfl ?_)
    exact ⟨rfl, _, _, _, _, _, _, _, _, _, _, _, _, _, _, _, _, _, _, _, _, _, rfl, hW⟩
 ·rintro vs h ⟨rfl, j3, j4, j5, j6, j7, j8, j10, j11, j12, j13, j14, j15, j16, j17, j18, j19, j21, j23, j24, want, trap, rfl, hwt, hww⟩
  by_cases htr : trap = 0
  ·obtain ⟨u, eT⟩ := reck_ok ho a b (by rw [← hwt]; exact htr)
   rw [eT, ← hww htr] at hT
   obtain ⟨vf, ve, vs, lf, le, ls, rfl, tf, lfl, sf, te, ae, tst, vst, _⟩ := hT
   have hl1 : le.length = 1 := ae.1
   obtain ⟨c1, rfl⟩ : ∃ c1, le = [c1] := by
    match le, hl1 with
    | [a], _ => exact ⟨a, rfl⟩
   obtain ⟨av, la, rfl, ra, va⟩ := ae.2 0 c1 (eR want) rfl rfl
   have hla : la.length = 1 := va.len
   obtain ⟨c7, rfl⟩ : ∃ c7, la = [c7] := by
    match la, hla with
    | [a], _ => exact ⟨a, rfl⟩
   have va' := va
   unfold VasR at va
   obtain ⟨c7', lc', e7, v7, _⟩ := va
   cases e7
   unfold numV' VaR at v7
   obtain ⟨vv, lc7, rfl, rvv, _⟩ := v7
   have ovv := rvv.1.one
   replace hT6 : Own h iT [vf, ve, .int .i64 5, .int .i64 1, .int .i64 u, .int .u8 1, .int .i64 0, .int .i64 0, vs] := hT6
   have rte := te.1
   have rav := ra.1
   repeat' (first | refine w_seq ?_ | refine w_reg ?_ | refine w_e ?_ | refine w_opk rfl rfl ?_)
   rw [show iEq trap (Int.ofNat 0) = true from iEq_tt htr]
   repeat' (first | refine w_seq ?_ | refine w_reg ?_ | refine w_cond_f rfl ?_ | refine w_skip ?_)
   refine w_loadA rfl (hT6.at rfl) rfl ?_
   refine w_callA [.agg [vf, ve, .int .i64 5, .int .i64 1, .int .i64 u, .int .u8 1, .int .i64 0, .int .i64 0, vs]] rfl ((sent_ok hO.se tf.1.one tst.1.one ovv rte rav).mono fun _ h7 ⟨e, hE7⟩ => ?_)
   subst e
   repeat' (first | refine w_opk rfl rfl ?_)
   refine w_alloc fun iV h8 hVo hiV hE8 => ?_
   refine w_store rfl rfl hVo rfl (by show allOne [.int .u8 1, .int .i64 want, .str [], vv] = true; simp only [allOne, ovv]; rfl) (by decide) (by simp) fun h9 hV9 hE9 hn9 => ?_
   replace hV9 : Own h9 iV [.int .u8 1, .int .i64 want, .str [], vv] := hV9
   repeat' (first | refine w_seq ?_ | refine w_reg ?_ | refine w_e ?_ | refine w_rfg rfl rfl (by assumption) (by rfl) (by rfl) (by rfl) (by rfl) ?_ | refine w_on rfl ?_ | refine w_opk rfl rfl ?_)
   rw [show iEq want want = true from iEq_tt rfl]
   repeat' (first | refine w_on rfl ?_)
   refine w_callA [] rfl (hO.aw.mono fun _ h10 ⟨e, hE10⟩ => ?_)
   subst e
   repeat' (first | refine w_e ?_ | refine w_opk rfl rfl ?_ | refine w_ret ?_ | refine w_rt rfl ?_)
   rfl
  ·obtain ⟨u, eT⟩ := reck_trap ho a b (by rw [← hwt]; exact htr)
   rw [eT, ← hwt] at hT
   obtain ⟨vf, ve, vs, lf, le, ls, rfl, tf, lfl, sf, te, ae, tst, vst, _⟩ := hT
   have hle : le = [] := List.eq_nil_of_length_eq_zero ae.1
   subst hle
   have rte := te.1
   replace hT6 : Own h iT [vf, ve, .int .i64 5, .int .i64 (IntKind.i64.wrap (1 - spawns [])), .int .i64 u, .int .u8 4, .int .i64 trap, .int .i64 0, vs] := hT6
   repeat' (first | refine w_seq ?_ | refine w_reg ?_ | refine w_e ?_ | refine w_opk rfl rfl ?_)
   rw [show iEq trap (Int.ofNat 0) = false from iEq_ff htr]
   repeat' (first | refine w_seq ?_ | refine w_reg ?_ | refine w_rf rfl (by assumption) (by rfl) (by rfl) (by rfl) ?_ | refine w_rfg rfl rfl (by assumption) (by rfl) (by rfl) (by rfl) (by rfl) ?_ | refine w_on rfl ?_ | refine w_opk rfl rfl ?_ | refine w_cond_t rfl ?_)
   rw [show iEq trap trap = true from iEq_tt rfl]
   repeat' (first | refine w_rfg rfl rfl (by assumption) (by rfl) (by rfl) (by rfl) (by rfl) ?_ | refine w_on rfl ?_ | refine w_len rfl (by assumption) ?_ | refine w_opk rfl rfl ?_)
   refine w_callA [] rfl (hO.aw.mono fun _ h6 ⟨e, hE6⟩ => ?_)
   subst e
   repeat' (first | refine w_e ?_ | refine w_opk rfl rfl ?_ | refine w_ret ?_ | refine w_rt rfl ?_)
   rfl
end AmT
