/-
  The interpreter under the abstract machine, part BaseOrderRun. Conditions: those that each theorem states.
-/
import Derived.Test.YtflchelidalhnaaGreatDoorIE
namespace AmT
open Go Am
set_option maxRecDepth 100000
set_option maxHeartbeats 8000000
set_option linter.unusedSimpArgs false
set_option linter.unusedVariables false
variable {O : CallF}
structure OffOrd (O : CallF) : Prop where
 pl : OffPl O
 it : ∀ a h, O 16 a h = none
 aw : ∀ {h : Heap}, WPc tab.get O 20 [] h (fun r h' => r = .bool true ∧ Ext h h')
theorem okVs_nums : ∀ l : List Int, (∀ x ∈ l, x = 1 ∨ x = 0) → okVs 15 (l.map numV')
 | [], _ => by simp [okVs]
 | a :: l, h => by
  unfold List.map okVs
  exact ⟨(okNum (by rcases h a (List.mem_cons_self ..) with e | e <;> subst e <;> exact ⟨by decide, by decide⟩)).1.mono (by decide) |> fun (k : okV 16 (numV' a)) => by
   unfold numV' okV at k ⊢
   exact ⟨by decide, k.2⟩, okVs_nums l fun x hx => h x (List.mem_cons_of_mem _ hx)⟩
theorem pcss_nums : ∀ l : List Int, pcss (l.map numV') = l.length
 | [] => rfl
 | a :: l => by
  unfold List.map pcss
  rw [pcss_nums l]
  show pcs (numV' a) + l.length = l.length + 1
  have : pcs (numV' a) = 1 := rfl
  omega
theorem ok_tup {l : List Int} (h : ∀ x ∈ l, x = 1 ∨ x = 0) (hl : l.length ≤ 100) : cVal.ok (tupV l) := by
 refine ⟨?_, ?_⟩
 ·unfold tupV okV
  exact ⟨by decide, .inr (.inr (.inr (.inl ⟨rfl, rfl, rfl, okVs_nums l h⟩)))⟩
 ·unfold tupV pcs
  rw [pcss_nums]
  omega
theorem effO_pre (t : List Int) {i : Nat} : ∀ n, i ≤ n → ∃ r, (effO t n).1 = (effO t i).1 ++ r
 | 0, h => by
  obtain rfl : i = 0 := by omega
  exact ⟨[], by simp⟩
 | n + 1, h => by
  by_cases e : i = n + 1
  ·subst e; exact ⟨[], by simp⟩
  ·obtain ⟨r, hr⟩ := effO_pre t (i := i) n (by omega)
   exact ⟨r ++ rndO ((t[n]?).getD 0) (effO t n).2 n, by show (effO t n).1 ++ _ = _; rw [hr, List.append_assoc]⟩
theorem effO_round (t : List Int) {i : Nat} (hi : i < t.length) : ∃ r, (effO t t.length).1 = (effO t i).1 ++ rndO t[i] (effO t i).2 i ++ r := by
 obtain ⟨r, hr⟩ := effO_pre t (i := i + 1) t.length (by omega)
 refine ⟨r, ?_⟩
 rw [hr]
 show (effO t i).1 ++ rndO ((t[i]?).getD 0) (effO t i).2 i ++ r = _
 rw [List.getElem?_eq_getElem hi]
 rfl
theorem baseOrder_ok (hO : OffOrd O) (hL : ∀ a h, O 6 a h = none) (tx : TextOk O textOrder (modC modOrder) modOrder) {n b : Nat} (hn : n < 256) (hbb : b < 18446744073709551616) {h0 : Heap} :
  WPc tab.get O 6 [.int .u8 (.ofNat n), .int .u64 (.ofNat b)] h0 (fun r _ => r = .bool true) := by
 refine w_fn' (hL _ _) rfl rfl (by simp only [c6, initV, nth] <;> rfl) ?_
 have hk : n % 41 < 41 := Nat.mod_lt _ (by decide)
 repeat' (first | refine w_seq ?_ | refine w_reg ?_ | refine w_e ?_ | refine w_opk rfl rfl ?_)
 rw [show IntKind.i64.wrap ((Int.ofNat n).tmod (Int.ofNat 41)) = Int.ofNat (n % 41) from wrap_i64_nat (by omega)]
 generalize n % 41 = k at *
 refine w_count (fun j vs h => ∃ j6 j8 wv, ∃ t : List Int, vs = [.int .u8 (.ofNat n), .int .u64 (.ofNat b), .bool false, .int .i64 (.ofNat k), .int .i64 (.ofNat j), .int .i64 (.ofNat k), j6, wv, j8, .any, .any, .any, .any, .any, .any, .any, .any, .any, .any, .any, .any, .any, .any, .any, .any, .any, .any, .any] ∧ Ow h 1 wv (t.map intC1) ∧ t.length = j ∧ ∀ x ∈ t, x = 1 ∨ x = 0) k ⟨_, _, .nils, [], rfl, by simpa using Ow.nils h0 1, rfl, by simp⟩ ?_
 rintro j vs h hj ⟨j6, j8, wv, t, rfl, hwv, htl, hw⟩
 repeat' (first | refine w_seq ?_ | refine w_reg ?_ | refine w_e ?_ | refine w_lssN rfl rfl (fun hc => ?_) (fun hc => ?_) | refine w_opk rfl rfl ?_ | refine w_cond_t rfl ?_ | refine w_cond_f rfl ?_ | refine w_skip ?_ | refine w_exit rfl ?_)
 ·refine w_block ?_
  refine w_seq (w_reg ?_)
  refine w_opk rfl rfl ?_
  refine w_opk rfl rfl ?_
  refine w_e ?_
  refine w_reg ?_
  refine w_opk rfl rfl ?_
  refine w_opk rfl rfl ?_
  refine w_opk rfl rfl ?_
  refine w_rem rfl rfl (by decide) ?_
  refine w_shrN (b := j % 64) rfl rfl fun c hc => ?_
  refine w_and1 rfl rfl (by omega) ?_
  have hc2 : c % 2 < 2 := Nat.mod_lt _ (by decide)
  refine w_toI (b := Int.ofNat (c % 2)) rfl (wrap_i64_nat (by omega)) ?_
  refine w_push (esz := 1) (v0 := .int .i64 (.ofNat (c % 2))) rfl rfl rfl rfl (fun _ => rfl) hwv (by rw [List.length_map]; omega) fun aa w' h5 hv' hf' => ?_
  repeat' (first | refine w_reg ?_ | refine w_e ?_ | refine w_addN rfl rfl (by omega) ?_ | refine w_opk rfl rfl ?_)
  refine ⟨by omega, _, _, w', t ++ [Int.ofNat (c % 2)], rfl, ?_, by simp [htl], fun x hx => ?_⟩
  ·rw [List.map_append]; exact hv'
  ·rcases List.mem_append.1 hx with hx | hx
   ·exact hw x hx
   ·rw [List.mem_singleton.1 hx]
    have : c % 2 = 1 ∨ c % 2 = 0 := by omega
    rcases this with e | e <;> rw [e]
    ·exact .inl rfl
    ·exact .inr rfl
 ·have hjk : j = k := by omega
  rw [hjk] at htl
  have hrt := hwv.rs
  refine w_callA [wv] rfl ((ints_ok hO.it (l := t) hrt (by omega)).mono fun iv h1 ⟨hiv, hE1, hids⟩ => ?_)
  have oiv := hiv.rs.one
  skip
  refine w_build [.int .u8 4, .int .i64 (.ofNat 0), .str [], iv] rfl (by simp only [fillP, V.cells1 oiv, allOne, oiv]; rfl) ?_
  refine w_bslice [[.int .u8 4, .int .i64 (.ofNat 0), .str [], iv]] rfl (by simp only [fillP, V.cells, allOne, oiv]; rfl) rfl rfl (by simp) fun av h2 hav hf2 => ?_
  have E2 : Ext h1 h2 := hf2.1.mono (by simp [slIds])
  have hiv2 := hiv.ext0 E2
  have hov : (begT modOrder 0 partOrder [] goT [tupV t] 5 1).over = 0 := rfl
  have hva : VasR (fun i => i < h2.n) h2 [tupV t] [[.int .u8 4, .int .i64 (.ofNat 0), .str [], iv]] := VasR.cons (by
   unfold tupV VaR
   exact ⟨iv, t.map numC, rfl, ⟨hiv2.rs, hiv2.rs.lt⟩, vas_nums t⟩) (VasR.nil _ _)
  refine w_callA [.str textOrder, av, .int .i64 (.ofNat 5000)] rfl ((played_ok hO.pl (Z := fun i => i < h2.n) (p := partOrder) (args := [tupV t]) tx (fun i hi => hi) rfl rfl ⟨hav.rs, hav.rs.lt⟩ hva (fun x hx => by
   rw [List.mem_singleton.1 hx]
   exact ok_tup hw (by omega)) (by simp) hov (by decide)).mono fun _ h3 ⟨c, e, hT, hE3⟩ => ?_)
  subst e
  have hts := hT.shape
  replace hT : TrnI (fun i => i < h3.n) h3 c (turnOrder t) := hT.mono fun j _ hj => hj
  have hrt3 := ((hrt.ext0 hE1).ext0 E2).ext0 hE3
  repeat' (first | refine w_opk rfl rfl ?_)
  refine w_alloc fun iT h4 hTo hiT hE4 => ?_
  refine w_store rfl rfl hTo hts.1 hts.2 (by decide) (by simp) fun h6 hT6 hE6 hn6 => ?_
  have E6 : Ext h3 h6 := hE4.step hE6 fun q hq => by simp at hq; exact .inr (by omega)
  replace hT6 : Own h6 iT c := by
   have : splice [V.nils, V.nils, nI 0, nI 0, nI 0, nB 0, nI 0, nI 0, V.nils] 0 c = c := over_all (by rw [hts.1]; rfl)
   rw [← this]; exact hT6
  replace hT := hT.ext0 E6
  have hrt6 := hrt3.ext0 E6
  obtain ⟨u, eT⟩ := order_ok t (by omega) hw
  rw [eT] at hT
  obtain ⟨vf, ve, vs, lf, le, ls, rfl, tf, lfl, sf, te, ae, tst, vst, _, te2, _⟩ := hT
  have rte := te.1
  have hel : (effO t t.length).1.length ≤ 2097152 := te2
  have hle : le.length = (effO t t.length).1.length := ae.1
  replace ae : All2 (EffR (fun i => i < h3.n) h6) le (effO t t.length).1 := ae
  obtain ⟨mx, hmx⟩ : ∃ mx : Nat, (effO t t.length).2 = Int.ofNat mx := ⟨(effO t t.length).2.toNat, (Int.toNat_of_nonneg (effO_nx t _).1).symm⟩
  replace hT6 : Own h6 iT [vf, ve, .int .i64 5, .int .i64 (.ofNat mx), .int .i64 u, .int .u8 1, .int .i64 0, .int .i64 0, vs] := by
   rw [← hmx]; exact hT6
  repeat' (first | refine w_seq ?_ | refine w_reg ?_ | refine w_e ?_ | refine w_rfg rfl rfl (by assumption) (by rfl) (by rfl) (by rfl) (by rfl) ?_ | refine w_on rfl ?_ | refine w_len rfl (by assumption) ?_ | refine w_opk rfl rfl ?_ | refine w_cond_f rfl ?_ | refine w_skip ?_)
  have hml : (t.map intC1).length = t.length := List.length_map ..
  refine w_count (fun q vs h => ∃ j11 j14 j16 j17 j20 j21 j22 j23 j24 j25 j26 j27 m, vs = [.int .u8 (.ofNat n), .int .u64 (.ofNat b), .bool false, .int .i64 (.ofNat k), .int .i64 (.ofNat j), .int .i64 (.ofNat k), .bool false, wv, j8, .int .i64 (.ofNat 0), .ptr iT 0 0 9, j11, .int .i64 (.ofNat q), .int .i64 (.ofNat (t.map intC1).length), j14, wv, j16, j17, .int .i64 (.ofNat (effO t q).1.length), .int .i64 (.ofNat m), j20, j21, j22, j23, j24, j25, j26, j27] ∧ (effO t q).2 = Int.ofNat m ∧ Ext h6 h) (t.map intC1).length ⟨_, _, _, _, _, _, _, _, _, _, _, _, 1, rfl, rfl, ExtX.refl _ _⟩ ?_
  rintro q vs' h hq ⟨j11, j14, j16, j17, j20, j21, j22, j23, j24, j25, j26, j27, m, rfl, hm, hE⟩
  have hT' := hT6.ext0 hE
  have rte' := rte.ext0 hE
  have hrt' := hrt6.ext0 hE
  have hm2 := (effO_nx t q).2
  rw [hm] at hm2
  replace hm2 : (m : Int) ≤ (q : Int) + 1 := hm2
  by_cases hql : q < (t.map intC1).length
  ·have hqt : q < t.length := by omega
   obtain ⟨r, hr⟩ := effO_round t hqt
   rw [hm] at hr
   have hwq := hw _ (List.getElem_mem hqt)
   have hSw := slot_at hrt' hql
   rw [List.getElem_map] at hSw
   have hsucc : effO t (q + 1) = ((effO t q).1 ++ rndO t[q] (Int.ofNat m) q, nxtO t[q] (Int.ofNat m)) := by
    show (_, _) = _
    rw [List.getElem?_eq_getElem hqt, hm]
    rfl
   generalize t[q] = wq at *
   generalize hat : (effO t q).1.length = at_ at *
   repeat' (first | refine w_seq ?_ | refine w_reg ?_ | refine w_e ?_ | refine w_opk rfl rfl ?_)
   rw [show iLt (Int.ofNat q) (Int.ofNat (t.map intC1).length) = true from by rw [iLt_eq]; exact decide_eq_true (by show (q : Int) < (t.map intC1).length; omega)]
   repeat' (first | refine w_seq ?_ | refine w_cond_t rfl ?_ | refine w_skip ?_)
   refine w_block ?_
   repeat' (first | refine w_seq ?_ | refine w_reg ?_ | refine w_opk rfl rfl ?_)
   refine w_iadrS rfl rfl hrt' hql ?_
   refine w_load1 (c := []) rfl hSw rfl ?_
   rcases hwq with rfl | rfl
   ·have hlen : at_ + 2 ≤ le.length := by rw [hle, hr, List.length_append, List.length_append, hat]; show at_ + 2 ≤ at_ + 2 + r.length; omega
    have he1 : (effO t t.length).1[at_]? = some ⟨Int.ofNat m, 0, [], []⟩ := by
     rw [hr, List.append_assoc, List.getElem?_append_right (by omega), hat, Nat.sub_self]
     rfl
    have he2 : (effO t t.length).1[at_ + 1]? = some ⟨Int.ofNat m, -1, [103, 111], [numV' (q : Int)]⟩ := by
     rw [hr, List.append_assoc, List.getElem?_append_right (by omega), hat, show at_ + 1 - at_ = 1 by omega]
     rfl
    have h1' : at_ < le.length := by omega
    have h2' : at_ + 1 < le.length := by omega
    obtain ⟨av1, la1, ec1, ra1, va1⟩ := ae.2 at_ le[at_] _ (List.getElem?_eq_getElem h1') he1
    obtain ⟨av2, la2, ec2, ra2, va2⟩ := ae.2 (at_ + 1) le[at_ + 1] _ (List.getElem?_eq_getElem h2') he2
    have hS1 := slot_at rte' h1'
    rw [ec1] at hS1
    have hS2 := slot_at rte' h2'
    rw [ec2] at hS2
    have hla : la2.length = 1 := va2.len
    obtain ⟨c7, rfl⟩ : ∃ c7, la2 = [c7] := by
     match la2, hla with
     | [a], _ => exact ⟨a, rfl⟩
    unfold VasR at va2
    obtain ⟨c7', lc', e7, v7, _⟩ := va2
    cases e7
    unfold numV' VaR at v7
    obtain ⟨vv, lc7, rfl, _⟩ := v7
    have oav := ra2.1.one
    have c1 : iNot (iLt (Int.ofNat at_) (Int.ofNat le.length)) = false := by rw [iLt_eq, show decide (Int.ofNat at_ < Int.ofNat le.length) = true from decide_eq_true (by show (at_ : Int) < le.length; omega)]; rfl
    have c2 : iNot (iLt (Int.ofNat (at_ + 1)) (Int.ofNat le.length)) = false := by rw [iLt_eq, show decide (Int.ofNat (at_ + 1) < Int.ofNat le.length) = true from decide_eq_true (by show ((at_ + 1 : Nat) : Int) < le.length; omega)]; rfl
    repeat' (first | refine w_seq ?_ | refine w_reg ?_ | refine w_e ?_ | refine w_rf rfl (by assumption) (by rfl) (by rfl) (by rfl) ?_ | refine w_len rfl (by assumption) ?_ | refine w_opk rfl rfl ?_ | refine w_cond_t rfl ?_)
    rw [c1]
    repeat' (first | refine w_rfg rfl rfl (by assumption) (by rfl) (by rfl) (by rfl) (by rfl) ?_ | refine w_on rfl ?_ | refine w_opk rfl rfl ?_)
    refine w_iadrS rfl rfl rte' h1' ?_
    repeat' (first | refine w_on rfl ?_)
    refine w_fadr rfl hS1 rfl fun hS11 => ?_
    repeat' (first | refine w_on rfl ?_)
    refine w_load1 rfl hS11 rfl ?_
    repeat' (first | refine w_rfg rfl rfl (by assumption) (by rfl) (by rfl) (by rfl) (by rfl) ?_ | refine w_on rfl ?_ | refine w_opk rfl rfl ?_)
    refine w_iadrS rfl rfl rte' h1' ?_
    repeat' (first | refine w_on rfl ?_)
    refine w_fadr rfl hS1 rfl fun hS10 => ?_
    repeat' (first | refine w_on rfl ?_)
    refine w_load1 rfl hS10 rfl ?_
    repeat' (first | refine w_e ?_ | refine w_on rfl ?_ | refine w_opk rfl rfl ?_)
    rw [show iEq (Int.ofNat m) (Int.ofNat m) = true from iEq_t (n := m) rfl]
    repeat' (first | refine w_seq ?_ | refine w_reg ?_ | refine w_e ?_ | refine w_rf rfl (by assumption) (by rfl) (by rfl) (by rfl) ?_ | refine w_len rfl (by assumption) ?_ | refine w_addN rfl rfl (by omega) ?_ | refine w_opk rfl rfl ?_ | refine w_cond_f rfl ?_ | refine w_skip ?_)
    rw [c2]
    repeat' (first | refine w_seq ?_ | refine w_reg ?_ | refine w_rf rfl (by assumption) (by rfl) (by rfl) (by rfl) ?_ | refine w_opk rfl rfl ?_ | refine w_cond_f rfl ?_ | refine w_skip ?_)
    refine w_iadrS rfl rfl rte' h2' ?_
    refine w_loadA rfl hS2 rfl ?_
    refine w_alloc fun iF h7 hFo hiF hE7 => ?_
    refine w_store rfl rfl hFo rfl (by show allOne [.int .i64 (.ofNat m), .int .i64 (-1), .str [103, 111], av2] = true; simp only [allOne, oav]; rfl) (by decide) (by simp) fun h8 hF8 hE8 hn8 => ?_
    replace hF8 : Own h8 iF [.int .i64 (.ofNat m), .int .i64 (-1), .str [103, 111], av2] := hF8
    have E8 : Ext h h8 := hE7.step hE8 fun q hq => by simp at hq; exact .inr (by omega)
    have rav := (ra2.1.ext0 hE).ext0 E8
    have hS3 := slot_at (j := 0) rav (by simp)
    clear hT' rte' hrt' hS1 hS2 hS11 hS10 hFo hE8
    have em : wrapK IntKind.i64 (Int.ofNat (m + 1) - Int.ofNat 1) = Int.ofNat m := by rw [wrapK_eq, show Int.ofNat (m + 1) - Int.ofNat 1 = Int.ofNat m by show ((m + 1 : Nat) : Int) - 1 = (m : Int); omega]; exact wrap_i64_nat (by omega)
    repeat' (first | refine w_seq ?_ | refine w_reg ?_ | refine w_e ?_ | refine w_rf rfl (by assumption) (by rfl) (by rfl) (by rfl) ?_ | refine w_rfg rfl rfl (by assumption) (by rfl) (by rfl) (by rfl) (by rfl) ?_ | refine w_on rfl ?_ | refine w_opk rfl rfl ?_ | refine w_cond_t rfl ?_)
    rw [em, show iEq (Int.ofNat m) (Int.ofNat m) = true from iEq_t (n := m) rfl]
    repeat' (first | refine w_rfg rfl rfl (by assumption) (by rfl) (by rfl) (by rfl) (by rfl) ?_ | refine w_on rfl ?_ | refine w_len rfl (by assumption) ?_ | refine w_opk rfl rfl ?_)
    refine w_iadrS (j := 0) rfl rfl rav (by simp) ?_
    repeat' (first | refine w_on rfl ?_)
    refine w_fadr rfl hS3 rfl fun hS31 => ?_
    repeat' (first | refine w_on rfl ?_)
    refine w_load1 rfl hS31 rfl ?_
    repeat' (first | refine w_e ?_ | refine w_on rfl ?_ | refine w_opk rfl rfl ?_)
    rw [show iEq (q : Int) (Int.ofNat q) = true from iEq_t (n := q) rfl]
    repeat' (first | refine w_reg ?_ | refine w_e ?_ | refine w_addN rfl rfl (by omega) ?_ | refine w_opk rfl rfl ?_ | refine w_cond_f rfl ?_ | refine w_skip ?_)
    have hl2 : (effO t (q + 1)).1.length = at_ + 2 := by rw [hsucc, List.length_append, hat]; rfl
    have hs2 : (effO t (q + 1)).2 = Int.ofNat (m + 1) := by rw [hsucc]; rfl
    rw [hl2]
    exact ⟨hql, _, _, _, _, _, _, _, _, _, _, _, _, (m + 1), rfl, hs2, hE.trans E8⟩
   ·have hlen : at_ + 1 ≤ le.length := by rw [hle, hr, List.length_append, List.length_append, hat]; show at_ + 1 ≤ at_ + 1 + r.length; omega
    have he1 : (effO t t.length).1[at_]? = some ⟨5, -1, [116, 111, 108, 100], [numV' (q : Int)]⟩ := by
     rw [hr, List.append_assoc, List.getElem?_append_right (by omega), hat, Nat.sub_self]
     rfl
    have h1' : at_ < le.length := by omega
    obtain ⟨av2, la2, ec2, ra2, va2⟩ := ae.2 at_ le[at_] _ (List.getElem?_eq_getElem h1') he1
    have hS2 := slot_at rte' h1'
    rw [ec2] at hS2
    have hla : la2.length = 1 := va2.len
    obtain ⟨c7, rfl⟩ : ∃ c7, la2 = [c7] := by
     match la2, hla with
     | [a], _ => exact ⟨a, rfl⟩
    unfold VasR at va2
    obtain ⟨c7', lc', e7, v7, _⟩ := va2
    cases e7
    unfold numV' VaR at v7
    obtain ⟨vv, lc7, rfl, _⟩ := v7
    have oav := ra2.1.one
    have c1 : iNot (iLt (Int.ofNat at_) (Int.ofNat le.length)) = false := by rw [iLt_eq, show decide (Int.ofNat at_ < Int.ofNat le.length) = true from decide_eq_true (by show (at_ : Int) < le.length; omega)]; rfl
    repeat' (first | refine w_seq ?_ | refine w_reg ?_ | refine w_e ?_ | refine w_rf rfl (by assumption) (by rfl) (by rfl) (by rfl) ?_ | refine w_len rfl (by assumption) ?_ | refine w_opk rfl rfl ?_ | refine w_cond_f rfl ?_ | refine w_skip ?_)
    rw [c1]
    repeat' (first | refine w_seq ?_ | refine w_reg ?_ | refine w_rf rfl (by assumption) (by rfl) (by rfl) (by rfl) ?_ | refine w_opk rfl rfl ?_ | refine w_cond_f rfl ?_ | refine w_skip ?_)
    refine w_iadrS rfl rfl rte' h1' ?_
    refine w_loadA rfl hS2 rfl ?_
    refine w_alloc fun iF h7 hFo hiF hE7 => ?_
    refine w_store rfl rfl hFo rfl (by show allOne [.int .i64 5, .int .i64 (-1), .str [116, 111, 108, 100], av2] = true; simp only [allOne, oav]; rfl) (by decide) (by simp) fun h8 hF8 hE8 hn8 => ?_
    replace hF8 : Own h8 iF [.int .i64 5, .int .i64 (-1), .str [116, 111, 108, 100], av2] := hF8
    have E8 : Ext h h8 := hE7.step hE8 fun q hq => by simp at hq; exact .inr (by omega)
    have rav := (ra2.1.ext0 hE).ext0 E8
    have hS3 := slot_at (j := 0) rav (by simp)
    clear hT' rte' hrt' hS2 hFo hE8
    repeat' (first | refine w_seq ?_ | refine w_reg ?_ | refine w_e ?_ | refine w_rf rfl (by assumption) (by rfl) (by rfl) (by rfl) ?_ | refine w_rfg rfl rfl (by assumption) (by rfl) (by rfl) (by rfl) (by rfl) ?_ | refine w_on rfl ?_ | refine w_len rfl (by assumption) ?_ | refine w_opk rfl rfl ?_ | refine w_cond_f rfl ?_ | refine w_skip ?_)
    refine w_iadrS (j := 0) rfl rfl rav (by simp) ?_
    repeat' (first | refine w_on rfl ?_)
    refine w_fadr rfl hS3 rfl fun hS31 => ?_
    repeat' (first | refine w_on rfl ?_)
    refine w_load1 rfl hS31 rfl ?_
    repeat' (first | refine w_e ?_ | refine w_on rfl ?_ | refine w_opk rfl rfl ?_)
    rw [show iEq (q : Int) (Int.ofNat q) = true from iEq_t (n := q) rfl]
    repeat' (first | refine w_reg ?_ | refine w_e ?_ | refine w_addN rfl rfl (by omega) ?_ | refine w_opk rfl rfl ?_ | refine w_cond_f rfl ?_ | refine w_skip ?_)
    have hl2 : (effO t (q + 1)).1.length = at_ + 1 := by rw [hsucc, List.length_append, hat]; rfl
    have hs2 : (effO t (q + 1)).2 = Int.ofNat m := by rw [hsucc]; rfl
    rw [hl2]
    exact ⟨hql, _, _, _, _, _, _, _, _, _, _, _, _, m, rfl, hs2, hE.trans E8⟩
  ·have hqe : q = t.length := by omega
   subst hqe
   have hmm : mx = m := Int.ofNat.inj (hmx.symm.trans hm)
   subst hmm
   rw [← hle]
   repeat' (first | refine w_seq ?_ | refine w_reg ?_ | refine w_e ?_ | refine w_opk rfl rfl ?_)
   rw [show iLt (Int.ofNat t.length) (Int.ofNat (t.map intC1).length) = false from by rw [iLt_eq]; exact decide_eq_false (by show ¬ ((t.length : Int) < (t.map intC1).length); omega)]
   repeat' (first | refine w_seq ?_ | refine w_reg ?_ | refine w_rf rfl (by assumption) (by rfl) (by rfl) (by rfl) ?_ | refine w_len rfl (by assumption) ?_ | refine w_opk rfl rfl ?_ | refine w_cond_f rfl ?_ | refine w_exit rfl ?_)
   rw [show iEq (Int.ofNat le.length) (Int.ofNat le.length) = true from iEq_t (n := le.length) rfl]
   repeat' (first | refine w_rfg rfl rfl (by assumption) (by rfl) (by rfl) (by rfl) (by rfl) ?_ | refine w_on rfl ?_ | refine w_opk rfl rfl ?_)
   rw [show iEq (Int.ofNat mx) (Int.ofNat mx) = true from iEq_t (n := mx) rfl]
   repeat' (first | refine w_on rfl ?_)
   refine w_callA [] rfl (hO.aw.mono fun _ h9 ⟨e, hE9⟩ => ?_)
   subst e
   repeat' (first | refine w_e ?_ | refine w_opk rfl rfl ?_ | refine w_ret ?_ | refine w_rt rfl ?_)
   rfl
end AmT
