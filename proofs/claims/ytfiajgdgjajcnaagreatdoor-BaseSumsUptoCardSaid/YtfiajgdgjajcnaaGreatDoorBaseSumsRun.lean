/-
  The interpreter under the abstract machine, part BaseSumsRun. Conditions: those that each theorem states.
-/
import Derived.Test.YtfiajgdgjajcnaaGreatDoorIE
import Derived.Test.YtfiajgdgjajcnaaGreatDoorIA
namespace AmT
open Go Am
set_option maxRecDepth 100000
set_option maxHeartbeats 8000000
set_option linter.unusedSimpArgs false
set_option linter.unusedVariables false
variable {O : CallF}
structure OffSums (O : CallF) : Prop where
 rn : OffRun O
 rg : OffRg O
 bg : OffBg O
 rs : OffWV O
 it : ∀ a h, O 17 a h = none
 aw : ∀ {h : Heap}, WPc tab.get O 21 [] h (fun r h' => r = .bool true ∧ Ext h h')
theorem w_bsliceN {T : Nat → Option AFunc} {os : List AOp} {ls vs : List V} {h : Heap} {Q : List V → Heap → Prop} {n esz : Nat} {zero : List V} {parts : List (Nat × Nat × Opd)} {ps : List (Nat × Nat × V)} {cs : List V} (l : List (List V)) (hp : evp ls vs parts = some ps) (hf : fillP (rep n zero) ps = some cs) (hc : cs = l.flatten) (hn : l.length = n) (hl : ∀ c ∈ l, c.length = esz)
  (k1 : ∀ v' h', Ow h' esz v' l → NewS h' v' l.flatten → Fr h .nils h' v' → WPo T O os (v' :: ls) vs h' Q) : WPo T O (⟨none, .bslice n esz zero parts⟩ :: os) ls vs h Q := by
 subst hc hn
 refine w_op (v := .sl h.n 0 l.length 0 esz true) (h1 := h.alloc (.cells l.flatten 0 big)) ?_ (k1 _ _ (Ow.new hl true) ⟨h.n, l.length, esz, true, big, rfl, by simp, by rw [Heap.get_alloc, if_pos rfl]⟩ ⟨ExtX.alloc _ _, fun j hj => by simp [slIds] at hj; exact .inr (by omega)⟩)
 show o_bslice l.length esz zero parts ls vs h = _
 simp only [o_bslice, hp, hf]
def cent (x : Int) : Int := (x.tmod 100 + 100).tmod 100
theorem cent_le (x : Int) : 0 ≤ cent x ∧ cent x < 100 := by
 unfold cent
 have h1 := Int.tmod_lt_of_pos x (show (0 : Int) < 100 by decide)
 have h2 : -100 < x.tmod 100 := by have := Int.lt_tmod_of_pos x (show (0 : Int) < 100 by decide); omega
 have h3 : 0 ≤ x.tmod 100 + 100 := by omega
 rw [Int.tmod_eq_emod_of_nonneg h3]
 omega
def cents (xs : List Int) : List Int := (xs.take 20).map cent
theorem cents_le {xs : List Int} : ∀ x ∈ cents xs, 0 ≤ x ∧ x ≤ 1000 := fun x hx => by
 obtain ⟨y, _, rfl⟩ := List.mem_map.1 hx
 have := cent_le y
 omega
theorem okVs_numsS : ∀ l : List Int, (∀ x ∈ l, 0 ≤ x ∧ x ≤ 1000) → okVs 15 (l.map numV')
 | [], _ => by simp [okVs]
 | a :: l, h => by
  have ha := h a (List.mem_cons_self ..)
  unfold List.map okVs
  exact ⟨(okNum ⟨by omega, by omega⟩).1.mono (by decide) |> fun (k : okV 16 (numV' a)) => by
   unfold numV' okV at k ⊢
   exact ⟨by decide, k.2⟩, okVs_numsS l fun x hx => h x (List.mem_cons_of_mem _ hx)⟩
theorem pcss_numsS : ∀ l : List Int, pcss (l.map numV') = l.length
 | [] => rfl
 | a :: l => by
  unfold List.map pcss
  rw [pcss_numsS l]
  show pcs (numV' a) + l.length = l.length + 1
  have : pcs (numV' a) = 1 := rfl
  omega
theorem ok_tupS {l : List Int} (h : ∀ x ∈ l, 0 ≤ x ∧ x ≤ 1000) (hl : l.length ≤ 100) : cVal.ok (tupV l) := by
 refine ⟨?_, ?_⟩
 ·unfold tupV okV
  exact ⟨by decide, .inr (.inr (.inr (.inl ⟨rfl, rfl, rfl, okVs_numsS l h⟩)))⟩
 ·unfold tupV pcs
  rw [pcss_numsS]
  omega
theorem baseSums_ok (hO : OffSums O) (hL : ∀ a h, O 3 a h = none) (t : TextOk O textSums (modC modSums) modSums) {v : V} {xs : List Int} (hv : ∀ H, RS H 1 v (xs.map intC1)) (hx : ∀ x ∈ xs, Am.i64 x) (hxl : xs.length ≤ 1048576) {k : Int} (hk : Am.i64 k) {h0 : Heap} :
  WPc tab.get O 3 [v, .int .i64 k] h0 (fun r _ => r = .bool true) := by
 refine w_fn' (hL _ _) rfl rfl (by simp only [c3, initV, nth] <;> rfl) ?_
 repeat' (first | refine w_seq ?_ | refine w_reg ?_ | refine w_e ?_ | refine w_opk rfl rfl ?_)
 refine w_callA [.str textSums] rfl (t.mo.mono fun _ h2 ⟨e, hE2⟩ => ?_)
 subst e
 have hms := (t.md h2).shape
 refine w_alloc fun iM h3 hM hiM hE3 => ?_
 refine w_store rfl rfl hM hms.1 hms.2 (by decide) (by simp) fun h4 hM4 hE4 hn4 => ?_
 replace hM4 : Own h4 iM (modC modSums) := by
  rw [show (V.agg (modC modSums)).cells = modC modSums from rfl, splice4 hms.1 rfl] at hM4
  exact hM4
 have ll : (cents xs).length = min 20 xs.length := by unfold cents; rw [List.length_map, List.length_take]
 have l1 : (xs.map intC1).length = xs.length := List.length_map ..
 repeat' (first | refine w_seq ?_ | refine w_reg ?_ | refine w_e ?_ | refine w_opk rfl rfl ?_)
 refine w_count (fun j vs h => ∃ j4 j6 w, vs = [v, .int .i64 k, .bool false, .int .i64 (.ofNat j), j4, w, j6, .int .i64 (sumI (cents xs) j), .any, .any, .any, .ptr iM 0 0 4, .any, .any, .any, .any, .any, .any] ∧ Ow h 4 w (((cents xs).take j).map numC) ∧ Ext h4 h ∧ ∀ i ∈ slIds w, h4.n ≤ i) (cents xs).length ⟨_, _, .nils, rfl, by simpa using Ow.nils h4 4, ExtX.refl _ _, by simp [slIds]⟩ ?_
 rintro j vs h hj ⟨j4, j6, w, rfl, hw, hE, hids⟩
 have r' := hv h
 repeat' (first | refine w_seq ?_ | refine w_reg ?_ | refine w_len rfl (by assumption) ?_ | refine w_opk rfl rfl ?_)
 by_cases hjc : j < (cents xs).length
 ·have hjl : j < xs.length := by omega
  have hj20 : j < 20 := by omega
  rw [show iLt (Int.ofNat j) (Int.ofNat (xs.map intC1).length) = true from by rw [iLt_eq]; exact decide_eq_true (by show (j : Int) < (xs.map intC1).length; omega)]
  repeat' (first | refine w_e ?_ | refine w_on rfl ?_ | refine w_opk rfl rfl ?_)
  have hS := slot_at r' (show j < (xs.map intC1).length by omega)
  rw [List.getElem_map] at hS
  have hxj := hx _ (List.getElem_mem hjl)
  have hcx : (cents xs)[j]? = some (cent xs[j]) := by
   unfold cents
   rw [List.getElem?_map, List.getElem?_take_of_lt hj20, List.getElem?_eq_getElem hjl]
   rfl
  generalize xs[j] = x at *
  rw [show iLt (Int.ofNat j) (Int.ofNat 20) = true from by rw [iLt_eq]; exact decide_eq_true (by show (j : Int) < 20; omega)]
  repeat' (first | refine w_seq ?_ | refine w_cond_t rfl ?_ | refine w_skip ?_)
  refine w_block ?_
  repeat' (first | refine w_seq ?_ | refine w_reg ?_ | refine w_opk rfl rfl ?_)
  refine w_iadrS rfl rfl r' (show j < (xs.map intC1).length by omega) ?_
  refine w_load1 (c := []) rfl hS rfl ?_
  repeat' (first | refine w_seq ?_ | refine w_reg ?_ | refine w_e ?_ | refine w_opk rfl rfl ?_)
  have hc := cent_le x
  have ec : (wrapK IntKind.i64 ((x.tmod (Int.ofNat 100)).add (Int.ofNat 100))).tmod (Int.ofNat 100) = cent x := by
   have h1 := Int.tmod_lt_of_pos x (show (0 : Int) < 100 by decide)
   have h2 : -100 < x.tmod 100 := by have := Int.lt_tmod_of_pos x (show (0 : Int) < 100 by decide); omega
   rw [wrapK_eq]
   show (IntKind.i64.wrap (x.tmod 100 + 100)).tmod 100 = cent x
   rw [wrap_i64_of (by omega) (by omega)]
   rfl
  rw [ec]
  have hsj := sumI_le (cents xs) (by omega) cents_le j hj
  have es : wrapK IntKind.i64 (sumI (cents xs) j + cent x) = sumI (cents xs) (j + 1) := by
   rw [wrapK_eq, wrap_i64_of (by omega) (by omega)]
   show _ = sumI (cents xs) j + ((cents xs)[j]?).getD 0
   rw [hcx]
   rfl
  have et : (cents xs).take (j + 1) = (cents xs).take j ++ [cent x] := by
   rw [List.take_add_one, hcx]
   rfl
  generalize cent x = n at *
  refine w_build (numC n) rfl rfl ?_
  refine w_push (esz := 4) (v0 := .agg (numC n)) rfl rfl rfl rfl (fun _ => rfl) hw (by rw [List.length_map, List.length_take]; omega) fun aa w' h5 hv' hf' => ?_
  repeat' (first | refine w_reg ?_ | refine w_e ?_ | refine w_addN rfl rfl (by omega) ?_ | refine w_opk rfl rfl ?_)
  rw [show wrapK IntKind.i64 ((sumI (cents xs) j).add n) = sumI (cents xs) (j + 1) from es]
  exact ⟨hjc, _, _, w', rfl, by rw [et, List.map_append]; exact hv', hE.step hf'.1 fun q hq => .inr (hids q hq), fun i hi => by
   rcases hf'.2 i hi with e | e
   ·exact hids i e
   ·have := hE.1; omega⟩
 ·have hjn : j = (cents xs).length := by omega
  subst hjn
  rw [List.take_length] at hw
  have hcl : (cents xs).length ≤ 20 := by omega
  have hfin : iLt (Int.ofNat (cents xs).length) (Int.ofNat (xs.map intC1).length) = false ∨ iLt (Int.ofNat (cents xs).length) (Int.ofNat (xs.map intC1).length) = true ∧ iLt (Int.ofNat (cents xs).length) (Int.ofNat 20) = false := by
   rw [iLt_eq, iLt_eq]
   by_cases h : (cents xs).length < (xs.map intC1).length
   ·exact .inr ⟨decide_eq_true (by show ((cents xs).length : Int) < (xs.map intC1).length; omega), decide_eq_false (by show ¬ ((cents xs).length : Int) < 20; omega)⟩
   ·exact .inl (decide_eq_false (by show ¬ ((cents xs).length : Int) < (xs.map intC1).length; omega))
  have hw4 := sumI_le (cents xs) (by omega) cents_le (cents xs).length (Nat.le_refl _)
  have hcs := cents_le (xs := xs)
  have ht := sums_ok (cents xs) hcl hcs
  generalize cents xs = l at *
  rcases hfin with e | ⟨e, e2⟩ <;> rw [e]
  all_goals
   repeat' (first | refine w_seq ?_ | refine w_reg ?_ | refine w_e ?_ | refine w_off rfl ?_ | refine w_on rfl ?_ | refine w_opk rfl rfl ?_ | refine w_cond_f rfl ?_ | refine w_exit rfl ?_)
   try (rw [e2]; skip)
  all_goals
   repeat' (first | refine w_seq ?_ | refine w_reg ?_ | refine w_e ?_ | refine w_opk rfl rfl ?_ | refine w_cond_f rfl ?_ | refine w_exit rfl ?_)
   obtain ⟨kk, ek, hkk⟩ : ∃ kk : Nat, (wrapK IntKind.i64 ((k.tmod (Int.ofNat 16)).add (Int.ofNat 16))).tmod (Int.ofNat 16) = Int.ofNat kk ∧ kk < 16 := by
    have h1 := Int.tmod_lt_of_pos k (show (0 : Int) < 16 by decide)
    have h2 : -16 < k.tmod 16 := by have := Int.lt_tmod_of_pos k (show (0 : Int) < 16 by decide); omega
    rw [wrapK_eq]
    have h3 : IntKind.i64.wrap ((k.tmod (Int.ofNat 16)).add (Int.ofNat 16)) = k.tmod 16 + 16 := by
     show IntKind.i64.wrap (k.tmod 16 + 16) = _
     exact wrap_i64_of (by omega) (by omega)
    rw [h3]
    have h4 : (k.tmod 16 + 16).tmod 16 = (k.tmod 16 + 16) % 16 := Int.tmod_eq_emod_of_nonneg (by omega)
    refine ⟨((k.tmod 16 + 16) % 16).toNat, ?_, by omega⟩
    show (k.tmod 16 + 16).tmod 16 = (((k.tmod 16 + 16) % 16).toNat : Int)
    omega
   rw [ek]
   refine w_count (fun i vs h' => ∃ j9, vs = [v, .int .i64 (.ofNat kk), .bool false, .int .i64 (.ofNat l.length), .bool false, w, j6, .int .i64 (sumI l l.length), .int .i64 (.ofNat (i + 2)), j9, .int .i64 (.ofNat (facN (i + 1))), .ptr iM 0 0 4, .any, .any, .any, .any, .any, .any] ∧ h' = h) (kk - 1) ⟨_, rfl, rfl⟩ ?_
   rintro i vs h' hi ⟨j9, rfl, rfl⟩
   repeat' (first | refine w_seq ?_ | refine w_reg ?_ | refine w_e ?_ | refine w_opk rfl rfl ?_)
   by_cases hik : i < kk - 1
   ·have hb := facN_le (i + 1 + 1) (by omega)
    have em : wrapK IntKind.i64 (Int.ofNat (facN (i + 1)) * Int.ofNat (i + 2)) = Int.ofNat (facN (i + 1 + 1)) := by
     rw [wrapK_eq, show Int.ofNat (facN (i + 1)) * Int.ofNat (i + 2) = Int.ofNat (facN (i + 1 + 1)) by
      show ((facN (i + 1) : Nat) : Int) * ((i + 2 : Nat) : Int) = ((facN (i + 1 + 1) : Nat) : Int)
      rw [← Int.natCast_mul, Nat.mul_comm]
      rfl]
     exact wrap_i64_nat (by omega)
    rw [show iNot (iLt (Int.ofNat kk) (Int.ofNat (i + 2))) = true from by rw [iLt_eq, decide_eq_false (by show ¬ ((kk : Int) < ((i + 2 : Nat) : Int)); omega)]; rfl]
    repeat' (first | refine w_seq ?_ | refine w_cond_t rfl ?_ | refine w_skip ?_)
    refine w_block ?_
    repeat' (first | refine w_reg ?_ | refine w_e ?_ | refine w_addN rfl rfl (by omega) ?_ | refine w_opk rfl rfl ?_)
    rw [show wrapK IntKind.i64 ((Int.ofNat (facN (i + 1))).mul (Int.ofNat (i + 2))) = Int.ofNat (facN (i + 1 + 1)) from em]
    exact ⟨hik, _, rfl, rfl⟩
   ·have hfk : facN (i + 1) = facN kk := by
     rcases Nat.eq_zero_or_pos kk with e | e
     ·rw [show i = 0 by omega, e]
      rfl
     ·rw [show i + 1 = kk by omega]
    rw [hfk, show iNot (iLt (Int.ofNat kk) (Int.ofNat (i + 2))) = false from by rw [iLt_eq, decide_eq_true (by show (kk : Int) < ((i + 2 : Nat) : Int); omega)]; rfl]
    repeat' (first | refine w_seq ?_ | refine w_reg ?_ | refine w_cond_f rfl ?_ | refine w_exit rfl ?_)
    have hM' := hM4.ext0 hE
    have e4 : List.take 4 (modC modSums) = modC modSums := List.take_of_length_le (by have := hms.1; omega)
    refine w_loadA rfl (hM'.at hms.1) (by rw [hms.1]; rfl) ?_
    rw [e4]
    refine w_bslice [[.int .i64 (.ofNat 0)]] rfl rfl rfl rfl (by simp) fun sv h5 hsv hf5 => ?_
    have ow := hw.rs.one
    repeat' (first | refine w_opk rfl rfl ?_)
    refine w_build [.int .u8 4, .int .i64 (.ofNat 0), .str [], w] rfl (by simp only [fillP, V.cells1 ow, allOne, ow]; rfl) ?_
    repeat' (first | refine w_opk rfl rfl ?_)
    refine w_build (numC (Int.ofNat kk)) rfl rfl ?_
    refine w_bsliceN [[.int .u8 4, .int .i64 (.ofNat 0), .str [], w], numC (Int.ofNat kk)] rfl (by simp only [fillP, V.cells, allOne, ow]; rfl) rfl rfl (by simp [numC]) fun av h6 hav hnv hf6 => ?_
    refine w_snap rfl hnv ?_
    refine w_alloc fun iT h7 hTo hiT hE7 => ?_
    refine w_snapP rfl hTo ?_
    have hsv7 := (hsv.rs.ext0 (hf6.1.mono (by simp [slIds]))).ext0 hE7
    refine w_callA [sv] rfl ((ints_ok hO.it (l := [0]) hsv7 (by simp)).mono fun iv h8 ⟨hiv, hE8, hids8⟩ => ?_)
    have hT8 := hTo.ext0 hE8
    have hnv8 := (hnv.ext0 hE7).ext0 hE8
    refine w_chkObjP rfl rfl hT8 ?_
    refine w_chkObj rfl rfl hnv8 ?_
    have E5 : Ext h' h5 := hf5.1.mono (by simp [slIds])
    have E6 : Ext h5 h6 := hf6.1.mono (by simp [slIds])
    have hM8 : Own h8 iM (modC modSums) := (((hM'.ext0 E5).ext0 E6).ext0 hE7).ext0 hE8
    refine w_chkA (c := modC modSums) (by rw [e4]; rfl) rfl (hM8.at hms.1) (by rw [hms.1]; exact Nat.le_refl _) (V.beqL_refl _) ?_
    have hw8 := (((hw.ext0 E5).ext0 E6).ext0 hE7).ext0 hE8
    have hav8 := (hav.ext0 hE7).ext0 hE8
    have n5 := E5.1
    have n6 := E6.1
    have nT := hTo.1
    have zw : ∀ j ∈ slIds w, j < h8.n ∧ j ≠ iT := fun j hj => ⟨hw8.rs.lt j hj, by have := hw.rs.lt j hj; omega⟩
    have za : ∀ j ∈ slIds av, j < h8.n ∧ j ≠ iT := fun j hj => ⟨hav8.rs.lt j hj, by have := hav.rs.lt j hj; omega⟩
    have zi : ∀ j ∈ slIds iv, j < h8.n ∧ j ≠ iT := fun j hj => ⟨hiv.rs.lt j hj, by have := hids8 j hj; omega⟩
    have hva : VasR (fun i => i < h8.n ∧ i ≠ iT) h8 [tupV l, numV' (kk : Int)] [[.int .u8 4, .int .i64 (.ofNat 0), .str [], w], numC (Int.ofNat kk)] := VasR.cons (by
     unfold tupV VaR
     exact ⟨w, l.map numC, rfl, ⟨hw8.rs, zw⟩, vas_nums l⟩) (VasR.cons (VaR.num 1 _) (VasR.nil _ _))
    have hao : ∀ a ∈ [tupV l, numV' (kk : Int)], cVal.ok a := fun a ha => by
     rcases List.mem_cons.1 ha with rfl | ha
     ·exact ok_tupS hcs (by omega)
     ·rw [List.mem_singleton.1 ha]
      exact okNum ⟨by omega, by omega⟩
    refine w_callA [.agg (modC modSums), .int .i64 (.ofNat 0), iv, .str goT, av, .int .i64 (.ofNat 5), .int .i64 (.ofNat 1)] rfl ((begin_ok (Z := fun i => i < h8.n ∧ i ≠ iT) (state := [numV' 0]) (p := partSums) hO.bg t.ok (fun i hi => hi.1) (t.mdn _ h8) rfl rfl ⟨hiv.rs, zi⟩ (vas_nums [0]) ⟨hav8.rs, za⟩ hva (fun a ha => by
     rw [List.mem_singleton.1 ha]
     exact okNum ⟨by decide, by decide⟩) hao (by simp) (fun _ => t.ck)).mono fun _ h9 ⟨c, e, hT, hE9⟩ => ?_)
    subst e
    have hT9 := hT8.ext0 hE9
    have hts := hT.shape
    refine w_chkObjP rfl rfl hT9 ?_
    repeat' (first | refine w_opk rfl rfl ?_)
    refine w_store rfl rfl hT9 hts.1 hts.2 (by decide) (by simp) fun h10 hT10 hE10 hn10 => ?_
    replace hT10 : Own h10 iT c := by
     have : splice [V.nils, V.nils, nI 0, nI 0, nI 0, nB 0, nI 0, nI 0, V.nils] 0 c = c := over_all (by rw [hts.1]; rfl)
     rw [← this]; exact hT10
    have n7 := hE7.1
    have n8 := hE8.1
    have n9 := hE9.1
    have hMT : iM ∉ [iT] := by
     have := hM'.1
     have := E5.1
     have := E6.1
     simp
     omega
    have hM10 : Own h10 iM (modC modSums) := (hM8.ext0 hE9).ext hE10 hMT
    have e9 : List.take 9 c = c := List.take_of_length_le (by omega)
    repeat' (first | refine w_seq ?_ | refine w_reg ?_ | refine w_e ?_ | refine w_opk rfl rfl ?_)
    refine w_loadA rfl (hM10.at hms.1) (by rw [hms.1]; rfl) ?_
    rw [e4]
    refine w_loadA rfl (hT10.at hts.1) (by rw [hts.1]; rfl) ?_
    rw [e9]
    have hov : (begS l kk).over = 0 := rfl
    have hbo := begT_ok t.ok (role := 0) (p := partSums) rfl (state := [numV' 0]) (tag := goT) (args := [tupV l, numV' (kk : Int)]) rfl (fun a ha => by
     rw [List.mem_singleton.1 ha]
     exact okNum ⟨by decide, by decide⟩) hao (self := 5) (next := 1) ⟨by decide, by decide⟩ ⟨by decide, by decide⟩ hov
    have hTI : TrnI (fun i => i < h9.n ∧ i ≠ iT) h9 c (begS l kk) := hT.mono fun q hq hl => ⟨hl, by
     have := hT8.1
     rcases hq with h | h
     ·exact h.2
     ·omega⟩
    have hTI10 : TrnI (fun i => i < h9.n ∧ i ≠ iT) h10 c (begS l kk) := hTI.ext hE10 (fun q hq hm => by
     simp at hm
     exact hq.2 hm) fun j hj _ => hj
    refine w_callA [.agg (modC modSums), .agg c, .int .i64 (.ofNat 5000)] rfl ((run_ok hO.rn t.ok (fun i hi => by have := hi.1; omega) (t.mdn _ h10) hTI10 hov hbo.1 (Nat.zero_le _) (by decide) fun {h} hE => (rightM_ok hO.rg t.ok (fun i hi => by have := hi.1; have := hE.1; omega) (t.mdn _ h) (hTI10.ext0 hE) hov hbo.1 fun _ => t.ck).mono fun r h' ⟨⟨b, e, hb⟩, hE'⟩ => ⟨by rw [e, hb.2 hbo.2], hE'⟩).mono fun _ h11 ⟨c', e, hT11, hE11⟩ => ?_)
    subst e
    have hts11 := hT11.shape
    have n10 : h10.n = h9.n := hn10
    have n11 := hE11.1
    obtain ⟨u, eT⟩ := ht kk hkk
    replace hT11 : TrnI (fun i => i < h11.n) h11 c' (runT modSums 5000 (begS l kk)) := hT11.mono fun j _ hj => hj
    rw [eT] at hT11
    have hwx : Ow h11 4 w (l.map numC) := (hw8.ext0 hE9).ext hE10 (fun j hj => by have := zw j hj; simp; omega) |>.ext0 hE11
    clear hM8 hM10 hT8 hT9 hT10 hTo hnv hnv8 hav hav8 hsv hsv7 hiv hTI hTI10 hT
    generalize hS : sumI l l.length = sm at *
    skip
    refine w_alloc fun iX h12 hXo hiX hE12 => ?_
    refine w_store rfl rfl hXo hts11.1 hts11.2 (by decide) (by simp) fun h13 hX13 hE13 hn13 => ?_
    have E13 : Ext h11 h13 := hE12.step hE13 fun q hq => by simp at hq; exact .inr (by omega)
    replace hX13 : Own h13 iX c' := by
     have : splice [V.nils, V.nils, nI 0, nI 0, nI 0, nB 0, nI 0, nI 0, V.nils] 0 c' = c' := over_all (by rw [hts11.1]; rfl)
     rw [← this]; exact hX13
    replace hT11 := hT11.ext0 E13
    replace hwx := hwx.ext0 E13
    repeat' (first | refine w_seq ?_ | refine w_reg ?_ | refine w_e ?_)
    refine w_build [.int .u8 2, .int .i64 (.ofNat 0), .str [], .nils] rfl rfl ?_
    refine w_alloc fun iN h14 hNo hiN hE14 => ?_
    refine w_store rfl rfl hNo rfl rfl (by decide) (by simp) fun h15 hN15 hE15 hn15 => ?_
    have E15 : Ext h13 h15 := hE14.step hE15 fun q hq => by simp at hq; exact .inr (by omega)
    replace hN15 : Own h15 iN [.int .u8 2, .int .i64 (.ofNat 0), .str [], .nils] := hN15
    have hw15 := (hwx.ext0 E15).rs
    have hlm : (l.map numC).length = l.length := List.length_map ..
    repeat' (first | refine w_seq ?_ | refine w_reg ?_ | refine w_e ?_ | refine w_len rfl (by assumption) ?_ | refine w_opk rfl rfl ?_)
    obtain ⟨nb, hnb⟩ : ∃ nb : Nat, nb = if l = [] then 1 else 0 := ⟨_, rfl⟩
    have hcd : iEq (Int.ofNat (l.map numC).length) (Int.ofNat 0) = decide (l = []) := by
     cases l <;> rfl
    rw [hcd]
    refine WPx.mono (N := fun vs h => vs = [v, .int .i64 (.ofNat kk), .bool false, .int .i64 (.ofNat l.length), .bool false, w, j6, .int .i64 sm, .int .i64 (.ofNat (i + 2)), .bool false, .int .i64 (.ofNat (facN kk)), .ptr iM 0 0 4, .ptr iT 0 0 9, .bool (decide (l = [])), .ptr iN 0 0 4, .int .i64 (.ofNat 0), .ptr iX 0 0 9, .any] ∧ Own h iN [.int .u8 2, .int .i64 (.ofNat nb), .str [], .nils] ∧ Ext h13 h) ?_ ?_ (fun _ _ q => q)
    ·by_cases hl : l = []
     ·rw [decide_eq_true hl]
      rw [if_pos hl] at hnb
      repeat' (first | refine w_reg ?_ | refine w_opk rfl rfl ?_ | refine w_cond_t rfl ?_)
      refine w_store rfl rfl hN15 rfl rfl (by decide) (by simp) fun h16 hN16 hE16 hn16 => ?_
      repeat' (first | refine w_e ?_)
      exact ⟨rfl, by rw [hnb]; exact hN16, E15.step hE16 fun q hq => by simp at hq; exact .inr (by have := hE14.1; omega)⟩
     ·rw [decide_eq_false hl]
      rw [if_neg hl] at hnb
      repeat' (first | refine w_cond_f rfl ?_ | refine w_skip ?_)
      exact ⟨rfl, by rw [hnb]; exact hN15, E15⟩
    rintro vs h ⟨rfl, hNh, hEh⟩
    have hXh := hX13.ext0 hEh
    have hTh := hT11.ext0 hEh
    have hwh := (hwx.ext0 hEh).rs
    clear hN15 hNo hE14 hE15 hX13 hT11 hwx hw15 hXo hE12 hE13 hcd
    repeat' (first | refine w_seq ?_ | refine w_reg ?_ | refine w_opk rfl rfl ?_)
    refine w_bsliceN [[.int .i64 sm], [.int .i64 (.ofNat (facN kk))]] rfl rfl rfl rfl (by simp) fun s1 k1 o1 e1 f1 => ?_
    have X1 : Ext h k1 := f1.1.mono (by simp [slIds])
    replace hwh := hwh.ext0 X1
    repeat' (first | refine w_len rfl (by assumption) ?_ | refine w_opk rfl rfl ?_)
    refine w_bsliceN [[.int .i64 (.ofNat (l.map numC).length)]] rfl rfl rfl rfl (by simp) fun s2 k2 o2 e2 f2 => ?_
    have X2 : Ext k1 k2 := f2.1.mono (by simp [slIds])
    refine w_snap rfl e2 ?_
    have hN2 := (hNh.ext0 X1).ext0 X2
    refine w_loadA rfl (hN2.at rfl) rfl ?_
    refine w_bsliceN [[.int .u8 2, .int .i64 (.ofNat nb), .str [], .nils]] rfl rfl rfl rfl (by simp) fun s3 k3 o3 e3 f3 => ?_
    have X3 : Ext k2 k3 := f3.1.mono (by simp [slIds])
    refine w_snap rfl e3 ?_
    have r1 := (o1.rs.ext0 X2).ext0 X3
    refine w_callA [s1] rfl ((ints_ok hO.it (l := [sm, Int.ofNat (facN kk)]) r1 (by simp)).mono fun i1 k4 ⟨p1, X4, q1⟩ => ?_)
    refine w_chkObj rfl rfl (e3.ext0 X4) ?_
    have hN4 := (hN2.ext0 X3).ext0 X4
    refine w_chkA rfl rfl (hN4.at rfl) (Nat.le_refl _) (V.beqL_refl _) ?_
    have e24 := (e2.ext0 X3).ext0 X4
    refine w_chkObj rfl rfl e24 ?_
    have r2 := (o2.rs.ext0 X3).ext0 X4
    refine w_callA [s2] rfl ((ints_ok hO.it (l := [Int.ofNat (l.map numC).length]) r2 (by simp)).mono fun i2 k5 ⟨p2, X5, h2id⟩ => ?_)
    refine w_chkObj rfl rfl ((e3.ext0 X4).ext0 X5) ?_
    refine w_chkA rfl rfl ((hN4.ext0 X5).at rfl) (Nat.le_refl _) (V.beqL_refl _) ?_
    have r3 := (o3.rs.ext0 X4).ext0 X5
    refine w_app rfl rfl p2 r3 (by simp) fun i3 k6 p3 f6 => ?_
    have X6 : ExtX (slIds i2) k5 k6 := f6.1
    have o3' := p3.rs.one
    refine w_build [.int .u8 4, .int .i64 (.ofNat 0), .str [], i3] rfl (by simp only [fillP, V.cells1 o3', allOne, o3']; rfl) ?_
    refine w_bsliceN [[.int .u8 4, .int .i64 (.ofNat 0), .str [], i3]] rfl (by simp only [fillP, V.cells, allOne, o3']; rfl) rfl rfl (by simp) fun s5 k7 o5 e5 f7 => ?_
    have X7 : Ext k6 k7 := f7.1.mono (by simp [slIds])
    have l1 := p1.rs.lt
    have p1' := ((p1.ext0 X5).ext X6 (fun j hj hm => by have := l1 j hj; have := h2id j hm; omega)).ext0 X7
    refine w_app rfl rfl p1' o5.rs (by simp) fun i7 k8 p7 f8 => ?_
    have X8 : ExtX (slIds i1) k7 k8 := f8.1
    have m1 := X1.1
    have m2 := X2.1
    have m3 := X3.1
    have m4 := X4.1
    have m5 := X5.1
    have p3' := (p3.ext0 X7).ext X8 (fun j hj hm => by
     have := l1 j hm
     rcases f6.2 j hj with e | e
     ·have := h2id j e; omega
     ·omega)
    have EE : Ext h k8 := (((((((X1.trans X2).trans X3).trans X4).trans X5).step X6 fun j hj => .inr (by have := h2id j hj; omega)).trans X7).step X8 fun j hj => .inr (by have := q1 j hj; omega))
    have hXk := hXh.ext0 EE
    have hTk := hTh.ext0 EE
    clear hXh hTh hNh hwh hN2 hN4 p1 p1' o5 e5 o1 o2 o3 e1 e2 e3 r1 r2 r3 p2 e24 X1 X2 X3 X4 X5 X6 X7 X8 f1 f2 f3 f6 f7 f8
    obtain ⟨vf, ve, vs', lf, le, ls', rfl, tf, lfl, sf, te, ae, tst, vst, _, te2, _⟩ := hTk
    replace hXk : Own k8 iX [vf, ve, .int .i64 5, .int .i64 1, .int .i64 u, .int .u8 1, .int .i64 0, .int .i64 0, vs'] := hXk
    replace ae : All2 (EffR (fun i => i < h11.n) k8) le [effS l kk] := ae
    replace vst : VasR (fun i => i < h11.n) k8 [numV' sm] ls' := vst
    have bnum : ∀ n : Int, BndV (numV' n) := fun n => by unfold numV' BndV; exact ⟨by simp, by simp, by unfold BndVl; trivial⟩
    have btru : ∀ b : Bool, BndV (truV b) := fun n => by unfold truV BndV; exact ⟨by simp, by simp, by unfold BndVl; trivial⟩
    have otst := tst.1
    repeat' (first | refine w_seq ?_ | refine w_reg ?_ | refine w_e ?_ | refine w_rfg rfl rfl (by assumption) (by rfl) (by rfl) (by rfl) (by rfl) ?_ | refine w_on rfl ?_ | refine w_opk rfl rfl ?_)
    refine w_bsliceN [[.int .i64 sm]] rfl rfl rfl rfl (by simp) fun s8 k9 o8 e8 f8 => ?_
    have X9 : Ext k8 k9 := f8.1.mono (by simp [slIds])
    refine w_on rfl (w_callA [s8] rfl ((ints_ok hO.it (l := [sm]) o8.rs (by simp)).mono fun i8 k10 ⟨p8, X10, _⟩ => ?_))
    have X10' := X9.trans X10
    have hXm := hXk.ext0 X10'
    refine w_on rfl (w_chk1 rfl rfl ((hXm.at (hi := 9) rfl).fadr (d := 8) (by simp)) (V.beq_refl _) ?_)
    refine w_on rfl (w_callA [vs', i8] rfl ((sameValsW_ok hO.rs.toOffVals (otst.ext0 X10') (vst.ext0 X10') p8.rs (vas_nums (Z := fun _ => True) [sm]) (by simp) (fun a ha => by rw [List.mem_singleton.1 ha]; exact bnum _)).mono fun _ k11 ⟨e, X11⟩ => ?_))
    subst e
    have X12 := X10'.trans X11
    have hXn := hXk.ext0 X12
    have p7' := (p7.ext0 X12)
    have p9 := p3'.ext0 X12
    have oi7 := p7.rs.one
    clear hXk hXm o8 e8
    repeat' (first | refine w_rfg rfl rfl (by assumption) (by rfl) (by rfl) (by rfl) (by rfl) ?_ | refine w_on rfl ?_ | refine w_opk rfl rfl ?_)
    refine w_build [.int .i64 5, .int .i64 (-1), .str [116, 111, 108, 100], i7] rfl (by simp only [fillP, V.cells1 oi7, allOne, oi7]; rfl) ?_
    refine w_on rfl (w_bsliceN [[.int .i64 5, .int .i64 (-1), .str [116, 111, 108, 100], i7]] rfl (by simp only [fillP, V.cells, allOne, oi7]; rfl) rfl rfl (by simp) fun s9 k12 o9 e9 f9 => ?_)
    have X13 : Ext k11 k12 := f9.1.mono (by simp [slIds])
    have hva : VasR (fun _ => True) k12 [numV' sm, numV' (facN kk : Int), tupS l] ([sm, Int.ofNat (facN kk)].map numC ++ [[.int .u8 4, .int .i64 (.ofNat 0), .str [], i3]]) := by
     refine VasR.cons (VaR.num 1 _) (VasR.cons (VaR.num 1 _) (VasR.cons ?_ (VasR.nil _ _)))
     unfold tupS VaR
     refine ⟨i3, _, rfl, ⟨p9.rs.ext0 X13, fun _ _ => trivial⟩, ?_⟩
     refine VasR.cons ?_ (VasR.cons ?_ (VasR.nil _ _))
     ·rw [hlm]; exact VaR.num 1 _
     ·rw [hnb]
      by_cases hl : l = []
      ·rw [if_pos hl]
       unfold truV
       rw [decide_eq_true hl]
       exact VaR.num 2 _
      ·rw [if_neg hl]
       unfold truV
       rw [decide_eq_false hl]
       exact VaR.num 2 _
    have hef : All2 (EffR (fun _ => True) k12) [[.int .i64 5, .int .i64 (-1), .str [116, 111, 108, 100], i7]] [effS l kk] := ⟨rfl, fun i x y hx hy => by
     cases i with
     | succ i => simp at hx
     | zero =>
      simp at hx hy
      subst hx hy
      unfold effS
      rw [hS]
      exact ⟨i7, _, rfl, ⟨p7'.rs.ext0 X13, fun _ _ => trivial⟩, hva⟩⟩
    have bnd : ∀ e ∈ [effS l kk], e.args.length ≤ 2097152 ∧ ∀ a ∈ e.args, BndV a := fun e he => by
     rw [List.mem_singleton.1 he]
     unfold effS
     refine ⟨by simp, fun a ha => ?_⟩
     simp only [List.mem_cons, List.not_mem_nil, or_false] at ha
     rcases ha with rfl | rfl | rfl
     ·exact bnum _
     ·exact bnum _
     ·unfold tupS BndV
      refine ⟨by simp, by simp, ?_⟩
      unfold BndVl
      refine ⟨bnum _, ?_⟩
      unfold BndVl
      exact ⟨btru _, by unfold BndVl; trivial⟩
    refine w_on rfl (w_callA [ve, s9] rfl ((sameEffsW_ok hO.rs (te.1.ext0 (X12.trans X13)) (ae.mono fun _ _ _ _ q => EffR.ext q (X12.trans X13) (Z' := fun _ => True) (by simp) fun _ _ _ => trivial) o9.rs hef (by simp) bnd).mono fun _ k13 ⟨e, X14⟩ => ?_))
    subst e
    repeat' (first | refine w_on rfl ?_ | refine w_opk rfl rfl ?_)
    refine w_callA [] rfl (hO.aw.mono fun _ k14 ⟨e, X15⟩ => ?_)
    subst e
    repeat' (first | refine w_e ?_ | refine w_opk rfl rfl ?_ | refine w_ret ?_ | refine w_rt rfl ?_)
    rfl
end AmT
