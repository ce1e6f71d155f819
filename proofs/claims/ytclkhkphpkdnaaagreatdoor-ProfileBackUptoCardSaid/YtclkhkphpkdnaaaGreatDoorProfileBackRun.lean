/-
  ProfileBack answers true at any two profiles and any bytes. Conditions: they are profiles, by their cells; not too long.
-/
import Derived.Test.YtclkhkphpkdnaaaGreatDoorProfWr
import Derived.Test.YtclkhkphpkdnaaaGreatDoorProfLaw
import Derived.Test.YtclkhkphpkdnaaaGreatDoorPSame
import Derived.Test.YtclkhkphpkdnaaaGreatDoorBEq
namespace AmT
open Go Am
set_option maxRecDepth 100000
set_option maxHeartbeats 8000000
set_option linter.unusedSimpArgs false
set_option linter.unusedVariables false
variable {O : CallF}

structure Off13b (O : CallF) : Prop where
  toAd : OffAdd O
  toPr : OffPr O
  toPw : OffPw O
  eq : ∀ a h, O 11 a h = none
  aw : ∀ h, O 6 [] h = some (.bool true, h)
  gr : ∀ a h, O 5 a h = none
  sm : ∀ a h, O 8 a h = none
  law : ∀ a h, O 3 a h = none

theorem w_aw13 {O : CallF} (hO : Off13b O) {vs ls : List V} {h : Heap} {Q : List V → Heap → Prop} {os : List AOp} (k1 : WPo tab.get O os (.bool true :: ls) vs h Q) : WPo tab.get O (⟨none, .call 6 []⟩ :: os) ls vs h Q :=
  w_call rfl (w_known (hO.aw h) k1)

theorem ProfR.one {h : Heap} {a : V} {P : List SeenT} (k : ProfR h a P) : allOne [a] = true := by
  obtain ⟨l, r, _⟩ := k
  simp only [allOne, r.one]

theorem w_fA {vs ls : List V} {h : Heap} {Q : List V → Heap → Prop} {os : List AOp} {x : Opd} {i : Nat} {a b c : V} (hx : ev ls vs x = some (.ptr i (0 + 0) 0 3)) (hX : Own h i [a, b, c]) (k1 : WPo tab.get O os (.agg [a] :: ls) vs h Q) : WPo tab.get O (⟨none, .load true 1 x⟩ :: os) ls vs h Q :=
  w_loadA hx ((hX.at rfl).fadr (d := 0) (by simp)) (by rfl) k1
theorem w_fB {vs ls : List V} {h : Heap} {Q : List V → Heap → Prop} {os : List AOp} {x : Opd} {i : Nat} {a b c : V} (hx : ev ls vs x = some (.ptr i (0 + 1) 0 3)) (hX : Own h i [a, b, c]) (k1 : WPo tab.get O os (.agg [b] :: ls) vs h Q) : WPo tab.get O (⟨none, .load true 1 x⟩ :: os) ls vs h Q :=
  w_loadA hx ((hX.at rfl).fadr (d := 1) (by simp)) (by rfl) k1

theorem profileBack_ok (hO : Off13b O) {h0 : Heap} {a b bv : V} {P Q : List SeenT} {bs : List Nat} (ha : ProfR h0 a P) (hb : ProfR h0 b Q) (hy : TyProf P) (hlen : (cProf.enc P).length ≤ 4000000000) (hB : RdB h0 bv bs) :
    WPc tab.get O 3 [.agg [a, b, bv]] h0 (fun v h' => v = .bool true) := by
  refine w_fn' (hO.law _ _) rfl rfl (by simp only [c3, initV, nth] <;> rfl) ?_
  have hone : allOne [a, b, bv] = true := by
    obtain ⟨_, r1, _⟩ := ha
    obtain ⟨_, r2, _⟩ := hb
    simp only [allOne, r1.one, r2.one, hB.rs.one, Bool.and_self]
  refine w_seq (w_reg (w_box rfl rfl hone fun iX h1 hX hiX hE1 => ?_))
  replace hX : Own h1 iX [a, b, bv] := hX
  replace ha := ha.ext hE1
  replace hb := hb.ext hE1
  replace hB := hB.ext0 hE1
  clear hE1
  repeat' (first | refine w_seq ?_ | refine w_reg ?_ | refine w_end (by simp only [outsV, nth, setV, List.take_succ_cons, List.take_zero, List.length_cons, List.length_nil, Nat.zero_add, Nat.reduceAdd] <;> rfl) ?_ | refine w_opk rfl rfl ?_)
  refine w_fA rfl hX ?_
  refine w_call rfl ((great13_ok hO.gr ha).mono fun v h2 ⟨⟨g, hv⟩, hE2⟩ => ?_)
  subst hv
  replace hX := hX.ext0 hE2
  replace ha := ha.ext hE2
  replace hb := hb.ext hE2
  replace hB := hB.ext0 hE2
  clear hE2
  cases g with
  | true =>
    repeat' (first | refine w_seq ?_ | refine w_reg ?_ | refine w_end (by simp only [outsV, nth, setV, List.take_succ_cons, List.take_zero, List.length_cons, List.length_nil, Nat.zero_add, Nat.reduceAdd] <;> rfl) ?_ | refine w_off rfl ?_ | refine w_opk rfl rfl ?_ | refine w_cond_t rfl ?_)
    refine w_aw13 hO ?_
    repeat' (first | refine w_end (by simp only [outsV, nth, setV, List.take_succ_cons, List.take_zero, List.length_cons, List.length_nil, Nat.zero_add, Nat.reduceAdd] <;> rfl) ?_ | refine w_opk rfl rfl ?_ | refine w_ret ?_ | refine w_rt rfl ?_)
    rfl
  | false =>
  repeat' (first | refine w_on rfl ?_ | refine w_opk rfl rfl ?_)
  refine w_fB rfl hX ?_
  refine w_on rfl ?_
  refine w_call rfl ((great13_ok hO.gr hb).mono fun v h3 ⟨⟨g, hv⟩, hE3⟩ => ?_)
  subst hv
  replace hX := hX.ext0 hE3
  replace ha := ha.ext hE3
  replace hb := hb.ext hE3
  replace hB := hB.ext0 hE3
  have r0 := hB.rs
  clear hE3
  cases g with
  | true =>
    repeat' (first | refine w_seq ?_ | refine w_reg ?_ | refine w_end (by simp only [outsV, nth, setV, List.take_succ_cons, List.take_zero, List.length_cons, List.length_nil, Nat.zero_add, Nat.reduceAdd] <;> rfl) ?_ | refine w_off rfl ?_ | refine w_opk rfl rfl ?_ | refine w_cond_t rfl ?_)
    refine w_aw13 hO ?_
    repeat' (first | refine w_end (by simp only [outsV, nth, setV, List.take_succ_cons, List.take_zero, List.length_cons, List.length_nil, Nat.zero_add, Nat.reduceAdd] <;> rfl) ?_ | refine w_opk rfl rfl ?_ | refine w_ret ?_ | refine w_rt rfl ?_)
    rfl
  | false =>
  repeat' (first | refine w_seq ?_ | refine w_reg ?_ | refine w_end (by simp only [outsV, nth, setV, List.take_succ_cons, List.take_zero, List.length_cons, List.length_nil, Nat.zero_add, Nat.reduceAdd] <;> rfl) ?_ | refine w_rfg rfl rfl (by assumption) (by rfl) (by rfl) (by rfl) (by rfl) ?_ | refine w_on rfl ?_ | refine w_len rfl (by assumption) ?_ | refine w_gtrN rfl rfl (fun hc => ?_) (fun hc => ?_) | refine w_opk rfl rfl ?_ | refine w_cond_t rfl ?_ | refine w_cond_f rfl ?_ | refine w_skip ?_)
  · refine w_aw13 hO ?_
    repeat' (first | refine w_end (by simp only [outsV, nth, setV, List.take_succ_cons, List.take_zero, List.length_cons, List.length_nil, Nat.zero_add, Nat.reduceAdd] <;> rfl) ?_ | refine w_opk rfl rfl ?_ | refine w_ret ?_ | refine w_rt rfl ?_)
    rfl
  have hbl : (bs.map byteC).length ≤ 100000 := by assumption
  rw [List.length_map] at hbl
  clear r0
  refine w_fA rfl hX ?_
  repeat' (first | refine w_opk rfl rfl ?_)
  refine w_fB rfl hX ?_
  repeat' (first | refine w_opk rfl rfl ?_)
  refine w_fB rfl hX ?_
  repeat' (first | refine w_opk rfl rfl ?_)
  refine w_fA rfl hX ?_
  have ha3 := ha
  have hB3 := hB
  refine w_alloc fun i1 h4 hY hi1 hE4 => ?_
  refine w_snapP rfl hY ?_
  refine w_alloc fun i2 h5 hZ hi2 hE5 => ?_
  refine w_snapP rfl hZ ?_
  have hYl := hY.1
  have hZl := hZ.1
  have hXl := hX.1
  have m4 := hE4.1
  have E5 := hE4.trans hE5
  replace hX := hX.ext0 E5
  replace ha := ha.ext E5
  replace hb := hb.ext E5
  replace hB := hB.ext0 E5
  replace hY := hY.ext0 hE5
  clear hE4 hE5
  refine w_call rfl ((add_ok hO.toAd ha hb).mono fun w h6 ⟨⟨v1, hw, k1⟩, hE6⟩ => ?_)
  subst hw
  replace hX := hX.ext0 hE6
  replace ha := ha.ext hE6
  replace hb := hb.ext hE6
  replace hB := hB.ext0 hE6
  replace hY := hY.ext0 hE6
  replace hZ := hZ.ext0 hE6
  have m6 := hE6.1
  have E6 := E5.trans hE6
  clear hE6
  refine w_chkObjP rfl rfl hZ ?_
  refine w_chkObjP rfl rfl hY ?_
  refine w_chkA rfl rfl ((hX.at rfl).fadr (d := 0) (by simp)) (by simp) (V.beqL_refl _) ?_
  refine w_chkA rfl rfl ((hX.at rfl).fadr (d := 1) (by simp)) (by simp) (V.beqL_refl _) ?_
  refine w_call rfl ((add_ok hO.toAd hb ha).mono fun w h7 ⟨⟨v2, hw, k2⟩, hE7⟩ => ?_)
  subst hw
  rw [← addP_comm P Q] at k2
  replace hX := hX.ext0 hE7
  replace ha := ha.ext hE7
  replace hB := hB.ext0 hE7
  replace hY := hY.ext0 hE7
  replace hZ := hZ.ext0 hE7
  replace k1 := k1.ext0 hE7
  have m7 := hE7.1
  have E7 := E6.trans hE7
  clear hE7 hb E6 E5 ha hB
  refine w_chkObjP rfl rfl hZ ?_
  refine w_chkObjP rfl rfl hY ?_
  refine w_store rfl rfl hY rfl k1.prof.one (by decide) (by simp) fun h8 hY2 hE8 hn8 => ?_
  have hZ8 := hZ.ext hE8 (by simp; omega)
  refine w_store rfl rfl hZ8 rfl k2.prof.one (by decide) (by simp) fun h9 hZ2 hE9 hn9 => ?_
  replace hY2 : Own h8 i1 [v1] := hY2
  replace hZ2 : Own h9 i2 [v2] := hZ2
  have hY9 := hY2.ext hE9 (by simp; omega)
  have p1 := ((k1.ext hE8 (by simp; omega)).ext hE9 (by simp; omega)).prof
  have p2 := ((k2.ext hE8 (by simp; omega)).ext hE9 (by simp; omega)).prof
  have hX9 := (hX.ext hE8 (by simp; omega)).ext hE9 (by simp; omega)
  have E9 : Ext h3 h9 := (E7.step hE8 fun jd hjd => by simp at hjd; exact .inr (by omega)).step hE9 fun jd hjd => by simp at hjd; exact .inr (by omega)
  have ha := ha3.ext E9
  have hB := hB3.ext0 E9
  clear hX hY hZ k1 k2 hE8 hE9 hY2 hZ8 E7 E9 ha3 hB3
  repeat' (first | refine w_seq ?_ | refine w_reg ?_ | refine w_end (by simp only [outsV, nth, setV, List.take_succ_cons, List.take_zero, List.length_cons, List.length_nil, Nat.zero_add, Nat.reduceAdd] <;> rfl) ?_)
  refine w_loadA rfl (hY9.at rfl) rfl ?_
  skip
  refine w_loadA rfl (hZ2.at rfl) rfl ?_
  refine w_call rfl ((same13_ok hO.sm p1 p2).mono fun v h10 ⟨hv, hE10⟩ => ?_)
  subst hv
  replace hX := hX9.ext0 hE10
  replace hY := hY9.ext0 hE10
  replace ha := ha.ext hE10
  replace hB := hB.ext0 hE10
  replace p1 := p1.ext hE10
  clear p2 hZ2 hX9 hY9 hE10
  repeat' (first | refine w_seq ?_ | refine w_reg ?_ | refine w_end (by simp only [outsV, nth, setV, List.take_succ_cons, List.take_zero, List.length_cons, List.length_nil, Nat.zero_add, Nat.reduceAdd] <;> rfl) ?_ | refine w_rf rfl (by assumption) (by rfl) (by rfl) (by rfl) ?_ | refine w_opk rfl rfl ?_ | refine w_cond_f rfl ?_ | refine w_skip ?_)
  obtain ⟨la, ra, ea, ba, sa⟩ := id ha
  obtain ⟨ls, r1, e1, b1, s1⟩ := p1
  have hlen1 := addP_len P Q
  repeat' (first | refine w_end (by simp only [outsV, nth, setV, List.take_succ_cons, List.take_zero, List.length_cons, List.length_nil, Nat.zero_add, Nat.reduceAdd] <;> rfl) ?_ | refine w_len rfl (by assumption) ?_ | refine w_opk rfl rfl ?_)
  refine w_count (fun i vs h => h10 = h ∧ ∃ c9 c10 c11 c12 c13 c14 c15 c16 c17 c18, vs = [.agg [a, b, bv], .bool false, .ptr iX 0 0 3, .bool false, .ptr i1 0 0 1, .ptr i2 0 0 1, .bool (!true), .int .i64 (.ofNat i), .int .i64 (.ofNat la.length), c9, c10, c11, c12, c13, c14, c15, c16, c17, c18, .any, .any, .any, .any, .any, .any, .any, .any, .any, .any, .any]) la.length ⟨rfl, _, _, _, _, _, _, _, _, _, _, rfl⟩ ?_
  rintro i vs h hi ⟨rfl, c9, c10, c11, c12, c13, c14, c15, c16, c17, c18, rfl⟩
  repeat' (first | refine w_seq ?_ | refine w_reg ?_ | refine w_end (by simp only [outsV, nth, setV, List.take_succ_cons, List.take_zero, List.length_cons, List.length_nil, Nat.zero_add, Nat.reduceAdd] <;> rfl) ?_ | refine w_lssN rfl rfl (fun hc => ?_) (fun hc => ?_) | refine w_opk rfl rfl ?_ | refine w_cond_t rfl ?_ | refine w_cond_f rfl ?_ | refine w_skip ?_ | refine w_exit rfl ?_)
  · have hi1 : i < la.length := by assumption
    have hi2 : i < P.length := by omega
    have hi3 : i < ls.length := by omega
    have hi4 : i < (addP P Q).length := by omega
    have hsi := List.getElem?_eq_getElem hi2
    obtain ⟨tv, te, rt, bt⟩ := sa i la[i] _ (List.getElem?_eq_getElem hi1) hsi
    have hri := List.getElem?_eq_getElem hi4
    obtain ⟨uv, ue, ru, bu⟩ := s1 i ls[i] _ (List.getElem?_eq_getElem hi3) hri
    have hS1 := slot_at ra hi1
    rw [te] at hS1
    have hS2 := slot_at r1 hi3
    rw [ue] at hS2
    have hty := hy _ (List.getElem_mem hi2)
    generalize P[i] = s at *
    generalize (addP P Q)[i] = r at *
    refine w_block ?_
    repeat' (first | refine w_seq ?_ | refine w_reg ?_ | refine w_end (by simp only [outsV, nth, setV, List.take_succ_cons, List.take_zero, List.length_cons, List.length_nil, Nat.zero_add, Nat.reduceAdd] <;> rfl) ?_ | refine w_rf rfl (by assumption) (by rfl) (by rfl) (by rfl) ?_ | refine w_opk rfl rfl ?_)
    refine w_iadrS rfl rfl ra hi1 ?_
    refine w_fadr rfl hS1 rfl fun hS10 => ?_
    refine w_load1 (c := []) rfl hS10 rfl ?_
    repeat' (first | refine w_end (by simp only [outsV, nth, setV, List.take_succ_cons, List.take_zero, List.length_cons, List.length_nil, Nat.zero_add, Nat.reduceAdd] <;> rfl) ?_ | refine w_len rfl (by assumption) ?_ | refine w_opk rfl rfl ?_)
    refine w_count (fun k vs h => h10 = h ∧ ∃ c13 c14 c15 c16 c17 c18, vs = [.agg [a, b, bv], .bool false, .ptr iX 0 0 3, .bool false, .ptr i1 0 0 1, .ptr i2 0 0 1, .bool (!true), .int .i64 (.ofNat i), .int .i64 (.ofNat la.length), .bool true, .int .i64 (.ofNat i), .int .i64 (.ofNat k), .int .i64 (.ofNat (s.2.map topC).length), c13, c14, c15, c16, c17, c18, .any, .any, .any, .any, .any, .any, .any, .any, .any, .any, .any]) (s.2.map topC).length ⟨rfl, _, _, _, _, _, _, rfl⟩ ?_
    rintro k vs h hk ⟨rfl, c13', c14', c15', c16', c17', c18', rfl⟩
    repeat' (first | refine w_seq ?_ | refine w_reg ?_ | refine w_end (by simp only [outsV, nth, setV, List.take_succ_cons, List.take_zero, List.length_cons, List.length_nil, Nat.zero_add, Nat.reduceAdd] <;> rfl) ?_ | refine w_lssN rfl rfl (fun hc => ?_) (fun hc => ?_) | refine w_addN rfl rfl (by omega) ?_ | refine w_opk rfl rfl ?_ | refine w_cond_t rfl ?_ | refine w_cond_f rfl ?_ | refine w_skip ?_ | refine w_exit rfl ?_)
    · have hk1 : k < (s.2.map topC).length := by assumption
      have hk2 : k < s.2.length := by rwa [List.length_map] at hk1
      have ht := List.getElem?_eq_getElem hk2
      obtain ⟨r', u, q1, q2, q3, q4⟩ := sum_top (Q := Q) hsi ht (hty _ (List.getElem_mem hk2))
      rw [hri] at q1
      simp only [Option.some.injEq] at q1
      subst q1
      obtain ⟨hk3, hu⟩ := List.getElem?_eq_some_iff.1 q2
      have hk4 : k < (r.2.map topC).length := by rwa [List.length_map]
      have hA1 := slot_at rt hk1
      rw [List.getElem_map] at hA1
      have hA2 := slot_at ru hk4
      rw [List.getElem_map, hu] at hA2
      generalize s.2[k] = t at *
      obtain ⟨t0, t1⟩ := t
      obtain ⟨u0, u1⟩ := u
      refine w_block ?_
      repeat' (first | refine w_seq ?_ | refine w_reg ?_ | refine w_end (by simp only [outsV, nth, setV, List.take_succ_cons, List.take_zero, List.length_cons, List.length_nil, Nat.zero_add, Nat.reduceAdd] <;> rfl) ?_ | refine w_opk rfl rfl ?_)
      refine w_count (fun m vs h => h10 = h ∧ ∃ c15 c17 c18, vs = [.agg [a, b, bv], .bool false, .ptr iX 0 0 3, .bool false, .ptr i1 0 0 1, .ptr i2 0 0 1, .bool (!true), .int .i64 (.ofNat i), .int .i64 (.ofNat la.length), .bool true, .int .i64 (.ofNat i), .int .i64 (.ofNat k), .int .i64 (.ofNat (s.2.map topC).length), .bool true, .int .i64 (.ofNat m), c15, .int .i64 (.ofNat k), c17, c18, .any, .any, .any, .any, .any, .any, .any, .any, .any, .any, .any]) 2 ⟨rfl, _, _, _, rfl⟩ ?_
      rintro m vs h hm ⟨rfl, c15'', c17'', c18'', rfl⟩
      repeat' (first | refine w_seq ?_ | refine w_reg ?_ | refine w_end (by simp only [outsV, nth, setV, List.take_succ_cons, List.take_zero, List.length_cons, List.length_nil, Nat.zero_add, Nat.reduceAdd] <;> rfl) ?_ | refine w_lssN rfl rfl (fun hc => ?_) (fun hc => ?_) | refine w_addN rfl rfl (by omega) ?_ | refine w_opk rfl rfl ?_ | refine w_cond_t rfl ?_ | refine w_cond_f rfl ?_ | refine w_skip ?_ | refine w_exit rfl ?_)
      · have hls : (ls.length : Int) = Int.ofNat ls.length := rfl
        have hm01 : m = 0 ∨ m = 1 := by
          have : m < 2 := by assumption
          omega
        clear hi hk hm
        rcases hm01 with rfl | rfl
        · refine w_block ?_
          repeat' (first | refine w_seq ?_ | refine w_reg ?_ | refine w_end (by simp only [outsV, nth, setV, List.take_succ_cons, List.take_zero, List.length_cons, List.length_nil, Nat.zero_add, Nat.reduceAdd] <;> rfl) ?_ | refine w_off rfl ?_ | refine w_rf rfl (by assumption) (by rfl) (by rfl) (by rfl) ?_ | refine w_rfg rfl rfl (by assumption) (by rfl) (by rfl) (by rfl) (by rfl) ?_ | refine w_on rfl ?_ | refine w_len rfl (by assumption) ?_ | refine w_geqN rfl rfl (fun hc => ?_) (fun hc => ?_) | refine w_opk rfl rfl ?_ | refine w_cond_t rfl ?_ | refine w_ret ?_ | refine w_rt rfl ?_)
          · exfalso; omega
          refine w_iadrS rfl rfl r1 hi3 ?_
          refine w_on rfl (w_fadr rfl hS2 rfl fun hS20 => ?_)
          refine w_on rfl (w_load1 (c := []) rfl hS20 rfl ?_)
          repeat' (first | refine w_seq ?_ | refine w_reg ?_ | refine w_end (by simp only [outsV, nth, setV, List.take_succ_cons, List.take_zero, List.length_cons, List.length_nil, Nat.zero_add, Nat.reduceAdd] <;> rfl) ?_ | refine w_off rfl ?_ | refine w_rfg rfl rfl (by assumption) (by rfl) (by rfl) (by rfl) (by rfl) ?_ | refine w_on rfl ?_ | refine w_len rfl (by assumption) ?_ | refine w_geqN rfl rfl (fun hc => ?_) (fun hc => ?_) | refine w_opk rfl rfl ?_ | refine w_cond_t rfl ?_ | refine w_ret ?_ | refine w_rt rfl ?_)
          · exfalso; omega
          refine w_iadrS rfl rfl r1 hi3 ?_
          refine w_on rfl (w_fadr rfl hS2 rfl fun hS21 => ?_)
          refine w_on rfl (w_load1 (c := []) rfl hS21 rfl ?_)
          repeat' (first | refine w_on rfl ?_ | refine w_opk rfl rfl ?_)
          refine w_iadrS rfl rfl ru hk4 ?_
          refine w_on rfl (w_iadrAt rfl rfl hA2 rfl rfl fun hA20 => ?_)
          refine w_on rfl (w_load1 rfl hA20 rfl ?_)
          repeat' (first | refine w_rfg rfl rfl (by assumption) (by rfl) (by rfl) (by rfl) (by rfl) ?_ | refine w_on rfl ?_ | refine w_opk rfl rfl ?_)
          refine w_iadrS rfl rfl ra hi1 ?_
          refine w_on rfl (w_fadr rfl hS1 rfl fun hS11 => ?_)
          refine w_on rfl (w_load1 (c := []) rfl hS11 rfl ?_)
          repeat' (first | refine w_on rfl ?_ | refine w_opk rfl rfl ?_)
          refine w_iadrS rfl rfl rt hk1 ?_
          refine w_on rfl (w_iadrAt rfl rfl hA1 rfl rfl fun hA10 => ?_)
          refine w_on rfl (w_load1 rfl hA10 rfl ?_)
          refine w_on rfl (w_op (v := .int .u8 (or8 u0 t0)) (h1 := h10) rfl ?_)
          have q3' : or8 u0 t0 = u0 := q3
          rw [q3']
          repeat' (first | refine w_rfg rfl rfl (by assumption) (by rfl) (by rfl) (by rfl) (by rfl) ?_ | refine w_on rfl ?_ | refine w_opk rfl rfl ?_)
          refine w_iadrS rfl rfl r1 hi3 ?_
          refine w_on rfl (w_fadr rfl hS2 rfl fun hS22 => ?_)
          refine w_on rfl (w_load1 (c := []) rfl hS22 rfl ?_)
          repeat' (first | refine w_on rfl ?_ | refine w_opk rfl rfl ?_)
          refine w_iadrS rfl rfl ru hk4 ?_
          refine w_on rfl (w_iadrAt rfl rfl hA2 rfl rfl fun hA21 => ?_)
          refine w_on rfl (w_load1 rfl hA21 rfl ?_)
          repeat' (first | refine w_seq ?_ | refine w_reg ?_ | refine w_end (by simp only [outsV, nth, setV, List.take_succ_cons, List.take_zero, List.length_cons, List.length_nil, Nat.zero_add, Nat.reduceAdd] <;> rfl) ?_ | refine w_on rfl ?_ | refine w_neq rfl rfl (fun hc => ?_) (fun hc => ?_) | refine w_addN rfl rfl (by omega) ?_ | refine w_opk rfl rfl ?_ | refine w_cond_t rfl ?_ | refine w_cond_f rfl ?_ | refine w_skip ?_ | refine w_ret ?_ | refine w_rt rfl ?_)
          · exact absurd rfl hc
          exact ⟨by omega, rfl, _, _, _, rfl⟩
        · refine w_block ?_
          repeat' (first | refine w_seq ?_ | refine w_reg ?_ | refine w_end (by simp only [outsV, nth, setV, List.take_succ_cons, List.take_zero, List.length_cons, List.length_nil, Nat.zero_add, Nat.reduceAdd] <;> rfl) ?_ | refine w_off rfl ?_ | refine w_rf rfl (by assumption) (by rfl) (by rfl) (by rfl) ?_ | refine w_rfg rfl rfl (by assumption) (by rfl) (by rfl) (by rfl) (by rfl) ?_ | refine w_on rfl ?_ | refine w_len rfl (by assumption) ?_ | refine w_geqN rfl rfl (fun hc => ?_) (fun hc => ?_) | refine w_opk rfl rfl ?_ | refine w_cond_t rfl ?_ | refine w_ret ?_ | refine w_rt rfl ?_)
          · exfalso; omega
          refine w_iadrS rfl rfl r1 hi3 ?_
          refine w_on rfl (w_fadr rfl hS2 rfl fun hS20 => ?_)
          refine w_on rfl (w_load1 (c := []) rfl hS20 rfl ?_)
          repeat' (first | refine w_seq ?_ | refine w_reg ?_ | refine w_end (by simp only [outsV, nth, setV, List.take_succ_cons, List.take_zero, List.length_cons, List.length_nil, Nat.zero_add, Nat.reduceAdd] <;> rfl) ?_ | refine w_off rfl ?_ | refine w_rfg rfl rfl (by assumption) (by rfl) (by rfl) (by rfl) (by rfl) ?_ | refine w_on rfl ?_ | refine w_len rfl (by assumption) ?_ | refine w_geqN rfl rfl (fun hc => ?_) (fun hc => ?_) | refine w_opk rfl rfl ?_ | refine w_cond_t rfl ?_ | refine w_ret ?_ | refine w_rt rfl ?_)
          · exfalso; omega
          refine w_iadrS rfl rfl r1 hi3 ?_
          refine w_on rfl (w_fadr rfl hS2 rfl fun hS21 => ?_)
          refine w_on rfl (w_load1 (c := []) rfl hS21 rfl ?_)
          repeat' (first | refine w_on rfl ?_ | refine w_opk rfl rfl ?_)
          refine w_iadrS rfl rfl ru hk4 ?_
          refine w_on rfl (w_iadrAt rfl rfl hA2 rfl rfl fun hA20 => ?_)
          refine w_on rfl (w_load1 (c := []) rfl hA20 rfl ?_)
          repeat' (first | refine w_rfg rfl rfl (by assumption) (by rfl) (by rfl) (by rfl) (by rfl) ?_ | refine w_on rfl ?_ | refine w_opk rfl rfl ?_)
          refine w_iadrS rfl rfl ra hi1 ?_
          refine w_on rfl (w_fadr rfl hS1 rfl fun hS11 => ?_)
          refine w_on rfl (w_load1 (c := []) rfl hS11 rfl ?_)
          repeat' (first | refine w_on rfl ?_ | refine w_opk rfl rfl ?_)
          refine w_iadrS rfl rfl rt hk1 ?_
          refine w_on rfl (w_iadrAt rfl rfl hA1 rfl rfl fun hA10 => ?_)
          refine w_on rfl (w_load1 (c := []) rfl hA10 rfl ?_)
          refine w_on rfl (w_op (v := .int .u8 (or8 u1 t1)) (h1 := h10) rfl ?_)
          have q3' : or8 u1 t1 = u1 := q4
          rw [q3']
          repeat' (first | refine w_rfg rfl rfl (by assumption) (by rfl) (by rfl) (by rfl) (by rfl) ?_ | refine w_on rfl ?_ | refine w_opk rfl rfl ?_)
          refine w_iadrS rfl rfl r1 hi3 ?_
          refine w_on rfl (w_fadr rfl hS2 rfl fun hS22 => ?_)
          refine w_on rfl (w_load1 (c := []) rfl hS22 rfl ?_)
          repeat' (first | refine w_on rfl ?_ | refine w_opk rfl rfl ?_)
          refine w_iadrS rfl rfl ru hk4 ?_
          refine w_on rfl (w_iadrAt rfl rfl hA2 rfl rfl fun hA21 => ?_)
          refine w_on rfl (w_load1 (c := []) rfl hA21 rfl ?_)
          repeat' (first | refine w_seq ?_ | refine w_reg ?_ | refine w_end (by simp only [outsV, nth, setV, List.take_succ_cons, List.take_zero, List.length_cons, List.length_nil, Nat.zero_add, Nat.reduceAdd] <;> rfl) ?_ | refine w_on rfl ?_ | refine w_neq rfl rfl (fun hc => ?_) (fun hc => ?_) | refine w_addN rfl rfl (by omega) ?_ | refine w_opk rfl rfl ?_ | refine w_cond_t rfl ?_ | refine w_cond_f rfl ?_ | refine w_skip ?_ | refine w_ret ?_ | refine w_rt rfl ?_)
          · exact absurd rfl hc
          exact ⟨by omega, rfl, _, _, _, rfl⟩
      · exact ⟨hk1, rfl, _, _, _, _, _, _, rfl⟩
    · have hk1 : (s.2.map topC).length ≤ k := by assumption
      skip
      exact ⟨hi1, rfl, _, _, _, _, _, _, _, _, _, _, rfl⟩
  · refine w_fA rfl hX ?_
    refine w_call rfl ((pbytes_ok hO.toPw ha hy hlen).mono fun _ h11 ⟨hE11, bv1, e1, ev, g1, g2⟩ => ?_)
    subst ev
    replace hX := hX.ext0 hE11
    replace ha := ha.ext hE11
    replace hB := hB.ext0 hE11
    clear hY r1 s1 sa ra hE11
    repeat' (first | refine w_seq ?_ | refine w_reg ?_ | refine w_end (by simp only [outsV, nth, setV, List.take_succ_cons, List.take_zero, List.length_cons, List.length_nil, Nat.zero_add, Nat.reduceAdd] <;> rfl) ?_ | refine w_rf rfl (by assumption) (by rfl) (by rfl) (by rfl) ?_ | refine w_eql rfl rfl (fun hc => ?_) (fun hc => ?_) | refine w_opk rfl rfl ?_ | refine w_cond_t rfl ?_ | refine w_cond_f rfl ?_ | refine w_skip ?_)
    · have he0 : e1 = 0 := by assumption
      have hok : cProf.ok P := by
        by_cases hq : cProf.ok P
        · exact hq
        · have := (g2 hq).1; omega
      have o1 := (g1 hok).2
      have hB1 : RdB h11 bv1 (cProf.enc P) := ⟨o1.rs, cProf.byt P hok, by omega⟩
      refine w_call rfl ((pread_ok hO.toPr hB1).mono fun _ h12 ⟨hE12, v2, e2, ev, g3, _⟩ => ?_)
      subst ev
      obtain ⟨z2, f2⟩ := g3 P (by have := cProf.ed P [] hok; rwa [List.append_nil] at this)
      subst z2
      replace hX := hX.ext0 hE12
      replace ha := ha.ext hE12
      replace hB := hB.ext0 hE12
      repeat' (first | refine w_opk rfl rfl ?_)
      refine w_alloc fun ig h13 hG hiG hE13 => ?_
      refine w_store rfl rfl hG rfl f2.one (by decide) (by simp) fun h14 hG2 y6 z6 => ?_
      have hEE : Ext h12 h14 := hE13.step y6 fun j hj => by simp at hj; exact .inr (by omega)
      replace hG : Own h14 ig [v2] := hG2
      replace hX := hX.ext0 hEE
      replace ha := ha.ext hEE
      replace hB := hB.ext0 hEE
      replace f2 := f2.ext hEE
      clear hG2 y6 hE13 hEE hE12 o1 hB1
      repeat' (first | refine w_seq ?_ | refine w_reg ?_ | refine w_end (by simp only [outsV, nth, setV, List.take_succ_cons, List.take_zero, List.length_cons, List.length_nil, Nat.zero_add, Nat.reduceAdd] <;> rfl) ?_ | refine w_on rfl ?_ | refine w_opk rfl rfl ?_)
      refine w_loadA rfl (hG.at rfl) rfl ?_
      repeat' (first | refine w_on rfl ?_ | refine w_opk rfl rfl ?_)
      refine w_fA rfl hX ?_
      refine w_on rfl ?_
      refine w_call rfl ((same13_ok hO.sm f2 ha).mono fun v h15 ⟨hv, hE15⟩ => ?_)
      subst hv
      replace hX := hX.ext0 hE15
      replace hB := hB.ext0 hE15
      clear hE15 ha f2 hG
      repeat' (first | refine w_seq ?_ | refine w_reg ?_ | refine w_end (by simp only [outsV, nth, setV, List.take_succ_cons, List.take_zero, List.length_cons, List.length_nil, Nat.zero_add, Nat.reduceAdd] <;> rfl) ?_ | refine w_rf rfl (by assumption) (by rfl) (by rfl) (by rfl) ?_ | refine w_on rfl ?_ | refine w_opk rfl rfl ?_ | refine w_cond_f rfl ?_ | refine w_skip ?_)
      refine w_call rfl ((pread_ok hO.toPr hB).mono fun _ h20 ⟨hE20, v3, e3, ev, g3, g4⟩ => ?_)
      subst ev
      replace hX := hX.ext0 hE20
      replace hB := hB.ext0 hE20
      have hs3 : allOne [v3] = true := by
        by_cases hd : ∃ x, cProf.dec bs = some (x, [])
        · obtain ⟨x, hd⟩ := hd
          exact (g3 x hd).2.one
        · rw [(g4 fun x e => hd ⟨x, e⟩).2]
          rfl
      repeat' (first | refine w_opk rfl rfl ?_)
      refine w_alloc fun iv h21 hV hiV hE21 => ?_
      refine w_store rfl rfl hV rfl hs3 (by decide) (by simp) fun h22 hV2 yv zv => ?_
      have hEE : Ext h20 h22 := hE21.step yv fun j hj => by simp at hj; exact .inr (by omega)
      replace hV : Own h22 iv [v3] := hV2
      replace hX := hX.ext0 hEE
      replace hB := hB.ext0 hEE
      clear hV2 yv hE21 hE20
      by_cases hd : ∃ x, cProf.dec bs = some (x, [])
      · obtain ⟨x, hd⟩ := hd
        obtain ⟨z3, f3⟩ := g3 x hd
        subst z3
        replace f3 := f3.ext hEE
        obtain ⟨hok3, hbs⟩ := cProf.de bs x [] hB.by_ hd
        rw [List.append_nil] at hbs
        have hty3 : TyProf x := fun s hs => ((cSeen_ok s).1 (((cProf_ok x).1 hok3).2 s hs)).2.2
        repeat' (first | refine w_seq ?_ | refine w_reg ?_ | refine w_end (by simp only [outsV, nth, setV, List.take_succ_cons, List.take_zero, List.length_cons, List.length_nil, Nat.zero_add, Nat.reduceAdd] <;> rfl) ?_ | refine w_opk rfl rfl ?_ | refine w_cond_f rfl ?_ | refine w_skip ?_)
        refine w_loadA rfl (hV.at rfl) rfl ?_
        refine w_call rfl ((pbytes_ok hO.toPw f3 hty3 (by rw [← hbs]; omega)).mono fun _ h23 ⟨hE23, b4, e4, ev, k4, _⟩ => ?_)
        obtain ⟨z4, o4⟩ := k4 hok3
        subst ev z4
        replace hX := hX.ext0 hE23
        replace hB := hB.ext0 hE23
        rw [← hbs] at o4
        have r9 := hB.rs
        repeat' (first | refine w_seq ?_ | refine w_reg ?_ | refine w_end (by simp only [outsV, nth, setV, List.take_succ_cons, List.take_zero, List.length_cons, List.length_nil, Nat.zero_add, Nat.reduceAdd] <;> rfl) ?_ | refine w_rfg rfl rfl (by assumption) (by rfl) (by rfl) (by rfl) (by rfl) ?_ | refine w_on rfl ?_ | refine w_opk rfl rfl ?_)
        refine w_call rfl ((bytesEq_ok hO.eq o4.rs hB.rs hB.by_ hB.by_).mono fun _ h24 ⟨⟨r, e, er⟩, _⟩ => ?_)
        obtain rfl := er.2 rfl
        subst e
        repeat' (first | refine w_on rfl ?_ | refine w_opk rfl rfl ?_)
        refine w_aw13 hO ?_
        repeat' (first | refine w_end (by simp only [outsV, nth, setV, List.take_succ_cons, List.take_zero, List.length_cons, List.length_nil, Nat.zero_add, Nat.reduceAdd] <;> rfl) ?_ | refine w_opk rfl rfl ?_ | refine w_ret ?_ | refine w_rt rfl ?_)
        rfl
      · obtain ⟨z3, z4⟩ := g4 fun x e => hd ⟨x, e⟩
        subst z3 z4
        have rn : RS h22 2 .nils [] := RS.nils _ _
        repeat' (first | refine w_seq ?_ | refine w_reg ?_ | refine w_end (by simp only [outsV, nth, setV, List.take_succ_cons, List.take_zero, List.length_cons, List.length_nil, Nat.zero_add, Nat.reduceAdd] <;> rfl) ?_ | refine w_rf rfl (by assumption) (by rfl) (by rfl) (by rfl) ?_ | refine w_on rfl ?_ | refine w_len rfl (by assumption) ?_ | refine w_opk rfl rfl ?_ | refine w_cond_t rfl ?_)
        refine w_aw13 hO ?_
        repeat' (first | refine w_end (by simp only [outsV, nth, setV, List.take_succ_cons, List.take_zero, List.length_cons, List.length_nil, Nat.zero_add, Nat.reduceAdd] <;> rfl) ?_ | refine w_opk rfl rfl ?_ | refine w_ret ?_ | refine w_rt rfl ?_)
        rfl
    · refine w_call rfl ((pread_ok hO.toPr hB).mono fun _ h20 ⟨hE20, v3, e3, ev, g3, g4⟩ => ?_)
      subst ev
      replace hX := hX.ext0 hE20
      replace hB := hB.ext0 hE20
      have hs3 : allOne [v3] = true := by
        by_cases hd : ∃ x, cProf.dec bs = some (x, [])
        · obtain ⟨x, hd⟩ := hd
          exact (g3 x hd).2.one
        · rw [(g4 fun x e => hd ⟨x, e⟩).2]
          rfl
      repeat' (first | refine w_opk rfl rfl ?_)
      refine w_alloc fun iv h21 hV hiV hE21 => ?_
      refine w_store rfl rfl hV rfl hs3 (by decide) (by simp) fun h22 hV2 yv zv => ?_
      have hEE : Ext h20 h22 := hE21.step yv fun j hj => by simp at hj; exact .inr (by omega)
      replace hV : Own h22 iv [v3] := hV2
      replace hX := hX.ext0 hEE
      replace hB := hB.ext0 hEE
      clear hV2 yv hE21 hE20
      by_cases hd : ∃ x, cProf.dec bs = some (x, [])
      · obtain ⟨x, hd⟩ := hd
        obtain ⟨z3, f3⟩ := g3 x hd
        subst z3
        replace f3 := f3.ext hEE
        obtain ⟨hok3, hbs⟩ := cProf.de bs x [] hB.by_ hd
        rw [List.append_nil] at hbs
        have hty3 : TyProf x := fun s hs => ((cSeen_ok s).1 (((cProf_ok x).1 hok3).2 s hs)).2.2
        repeat' (first | refine w_seq ?_ | refine w_reg ?_ | refine w_end (by simp only [outsV, nth, setV, List.take_succ_cons, List.take_zero, List.length_cons, List.length_nil, Nat.zero_add, Nat.reduceAdd] <;> rfl) ?_ | refine w_opk rfl rfl ?_ | refine w_cond_f rfl ?_ | refine w_skip ?_)
        refine w_loadA rfl (hV.at rfl) rfl ?_
        refine w_call rfl ((pbytes_ok hO.toPw f3 hty3 (by rw [← hbs]; omega)).mono fun _ h23 ⟨hE23, b4, e4, ev, k4, _⟩ => ?_)
        obtain ⟨z4, o4⟩ := k4 hok3
        subst ev z4
        replace hX := hX.ext0 hE23
        replace hB := hB.ext0 hE23
        rw [← hbs] at o4
        have r9 := hB.rs
        repeat' (first | refine w_seq ?_ | refine w_reg ?_ | refine w_end (by simp only [outsV, nth, setV, List.take_succ_cons, List.take_zero, List.length_cons, List.length_nil, Nat.zero_add, Nat.reduceAdd] <;> rfl) ?_ | refine w_rfg rfl rfl (by assumption) (by rfl) (by rfl) (by rfl) (by rfl) ?_ | refine w_on rfl ?_ | refine w_opk rfl rfl ?_)
        refine w_call rfl ((bytesEq_ok hO.eq o4.rs hB.rs hB.by_ hB.by_).mono fun _ h24 ⟨⟨r, e, er⟩, _⟩ => ?_)
        obtain rfl := er.2 rfl
        subst e
        repeat' (first | refine w_on rfl ?_ | refine w_opk rfl rfl ?_)
        refine w_aw13 hO ?_
        repeat' (first | refine w_end (by simp only [outsV, nth, setV, List.take_succ_cons, List.take_zero, List.length_cons, List.length_nil, Nat.zero_add, Nat.reduceAdd] <;> rfl) ?_ | refine w_opk rfl rfl ?_ | refine w_ret ?_ | refine w_rt rfl ?_)
        rfl
      · obtain ⟨z3, z4⟩ := g4 fun x e => hd ⟨x, e⟩
        subst z3 z4
        have rn : RS h22 2 .nils [] := RS.nils _ _
        repeat' (first | refine w_seq ?_ | refine w_reg ?_ | refine w_end (by simp only [outsV, nth, setV, List.take_succ_cons, List.take_zero, List.length_cons, List.length_nil, Nat.zero_add, Nat.reduceAdd] <;> rfl) ?_ | refine w_rf rfl (by assumption) (by rfl) (by rfl) (by rfl) ?_ | refine w_on rfl ?_ | refine w_len rfl (by assumption) ?_ | refine w_opk rfl rfl ?_ | refine w_cond_t rfl ?_)
        refine w_aw13 hO ?_
        repeat' (first | refine w_end (by simp only [outsV, nth, setV, List.take_succ_cons, List.take_zero, List.length_cons, List.length_nil, Nat.zero_add, Nat.reduceAdd] <;> rfl) ?_ | refine w_opk rfl rfl ?_ | refine w_ret ?_ | refine w_rt rfl ?_)
        rfl
end AmT
