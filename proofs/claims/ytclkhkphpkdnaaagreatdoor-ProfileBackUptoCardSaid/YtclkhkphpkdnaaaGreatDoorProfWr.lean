/-
  profile.Bytes: what a profile is written as, or none. Conditions: what was seen is bytes; it is not too long.
-/
import Derived.Test.YtclkhkphpkdnaaaGreatDoorProfRd
namespace AmT
open Go Am
set_option maxRecDepth 100000
set_option maxHeartbeats 8000000
set_option linter.unusedSimpArgs false
set_option linter.unusedVariables false
variable {O : CallF}

structure OffPw (O : CallF) : Prop where
  u : ∀ a h, O 26 a h = none
  p1 : ∀ a h, O 25 a h = none
  by_ : ∀ a h, O 9 a h = none

theorem pput_ok (hO : OffPw O) {h0 : Heap} {io : Nat} {bv : V} {l : List Nat} {k : Nat} (hk : k < 9223372036854775808) (hI : Own h0 io [bv]) (ho : Ow h0 1 bv (l.map byteC)) (hn : io ∉ slIds bv) (hr : l.length ≤ 4000000000) :
    WPc tab.get O 25 [.int .i64 (.ofNat k), .ptr io 0 0 1] h0 (fun _ h' => ∃ bv', Own h' io [bv'] ∧ Ow h' 1 bv' ((l ++ encU 9 k).map byteC) ∧ WrFr io h0 bv h' bv' ∧ io ∉ slIds bv') := by
  refine w_fn' (hO.p1 _ _) rfl rfl (by simp only [c25, initV, nth] <;> rfl) ?_
  have hil := hI.1
  repeat' (first | refine w_reg ?_ | refine w_fl rfl (by assumption) (by rfl) (by rfl) (by rfl) ?_ | refine w_opq rfl rfl ?_)
  refine w_toI (b := .ofNat k) rfl (by rw [wrap_u64]; show ((k : Nat) : Int) % _ = ((k : Nat) : Int); omega) ?_
  refine w_call rfl ((enc_ok (n := k) hO.u rfl (by omega) ho hr).mono fun bv' h1 ⟨t1, t2⟩ => ?_)
  have hI2 := hI.ext t2.1 (fun e => hn e)
  refine w_store rfl rfl hI2 (by rw [V.cells1 t1.rs.one]; rfl) (by rw [V.cells1 t1.rs.one]; simp only [allOne, t1.rs.one]) (by decide) (by simp) fun h2 u1 u2 u3 => ?_
  obtain ⟨k1, k2, k3, k4⟩ := cell_more t1 t2 hil hn u1 u2
  repeat' (first | refine w_end (by simp only [outsV, nth, setV, List.take_succ_cons, List.take_zero, List.length_cons, List.length_nil, Nat.zero_add, Nat.reduceAdd] <;> rfl) ?_ | refine w_rt rfl ?_)
  exact ⟨bv', k1, k2, k3, k4⟩

theorem pbytes_ok (hO : OffPw O) {h0 : Heap} {pv : V} {P : List SeenT} (hP : ProfR h0 pv P) (ht : TyProf P) (hlen : (cProf.enc P).length ≤ 4000000000) :
    WPc tab.get O 9 [.agg [pv]] h0 (fun v h' => Ext h0 h' ∧ ∃ bv e, v = .tuple [bv, .int .i64 e] ∧ (cProf.ok P → e = 0 ∧ Ow h' 1 bv ((cProf.enc P).map byteC)) ∧ (¬ cProf.ok P → e = 131 ∧ bv = .nils)) := by
  refine w_fn' (hO.by_ _ _) rfl rfl (by simp only [c9, initV, nth] <;> rfl) ?_
  obtain ⟨lp, rp, ep, bp, sp⟩ := hP
  have hoa : allOne [pv] = true := by simp only [allOne, rp.one]
  refine w_seq (w_reg (w_box rfl rfl hoa fun ib h1 hF hiF hE1 => ?_))
  replace hF : Own h1 ib [pv] := hF
  have hFl := hF.1
  have m1 := hE1.1
  repeat' (first | refine w_seq ?_ | refine w_reg ?_ | refine w_end (by simp only [outsV, nth, setV, List.take_succ_cons, List.take_zero, List.length_cons, List.length_nil, Nat.zero_add, Nat.reduceAdd] <;> rfl) ?_ | refine w_opk rfl rfl ?_)
  refine w_alloc fun io h2 hI hiI hE2 => ?_
  replace hI : Own h2 io [.nils] := hI
  have hIl := hI.1
  have m2 := hE2.1
  have hF2 := hF.ext0 hE2
  have E2 := hE1.trans hE2
  have rp2 := rp.ext0 E2
  rw [enc_prof, List.length_append] at hlen
  have hPl : P.length ≤ 4000000000 := by have := encL_ge seen_ge P; omega
  have hbf : ib ≠ io := by omega
  have lrp := rp.lt
  clear hF hE1 hE2
  repeat' (first | refine w_seq ?_ | refine w_reg ?_ | refine w_end (by simp only [outsV, nth, setV, List.take_succ_cons, List.take_zero, List.length_cons, List.length_nil, Nat.zero_add, Nat.reduceAdd] <;> rfl) ?_ | refine w_rf rfl (by assumption) (by rfl) (by rfl) (by rfl) ?_ | refine w_len rfl (by assumption) ?_ | refine w_gtrN rfl rfl (fun hc => ?_) (fun hc => ?_) | refine w_opk rfl rfl ?_ | refine w_cond_t rfl ?_ | refine w_cond_f rfl ?_ | refine w_skip ?_ | refine w_ret ?_ | refine w_rt rfl ?_)
  · have hc : 4096 < lp.length := by assumption
    exact ⟨E2, .nils, 131, rfl, fun h => by have := h.1; omega, fun _ => ⟨rfl, rfl⟩⟩
  have hcP : lp.length ≤ 4096 := by assumption
  refine w_callv rfl rfl ((pput_ok (l := []) (k := lp.length) hO (by omega) hI (Ow.nils _ _) (by simp [slIds]) (by simp)).mono fun _ h3 ⟨bv, k1, k2, k3, k4⟩ => ?_)
  rw [List.nil_append, ep] at k2
  have hF3 := wrOld k3 hF2 hbf
  have rp3 := wrRs k3 rp2 (fun j hj => by have := lrp j hj; omega)
  repeat' (first | refine w_seq ?_ | refine w_reg ?_ | refine w_end (by simp only [outsV, nth, setV, List.take_succ_cons, List.take_zero, List.length_cons, List.length_nil, Nat.zero_add, Nat.reduceAdd] <;> rfl) ?_ | refine w_rf rfl (by assumption) (by rfl) (by rfl) (by rfl) ?_ | refine w_len rfl (by assumption) ?_ | refine w_opk rfl rfl ?_)
  refine w_count (fun j vs h => ∃ bv b9 b11 b12 b13 b14 b15 b16 b17, vs = [.agg [pv], .nils, .int .i64 0, .ptr io 0 0 1, .ptr ib 0 0 1, .bool false, .fn 25 [] [.ptr io 0 0 1], .int .i64 (.ofNat j), .int .i64 (.ofNat lp.length), b9, pv, b11, b12, b13, b14, b15, b16, b17] ∧ Own h io [bv] ∧ Ow h 1 bv ((encU 9 P.length ++ encL cSeen.enc (P.take j)).map byteC) ∧ WrFr io h2 .nils h bv ∧ io ∉ slIds bv ∧ ∀ s ∈ P.take j, cSeen.ok s) lp.length ⟨bv, _, _, _, _, _, _, _, _, rfl, k1, by simpa [encL] using k2, k3, k4, by simp⟩ ?_
  clear k1 k2 k3 k4 hF3 rp3
  rintro j vs h hj ⟨bv, b9, b11, b12, b13, b14, b15, b16, b17, rfl, k1, k2, k3, k4, k5⟩
  have hF3 := wrOld k3 hF2 hbf
  have rp3 := wrRs k3 rp2 (fun j hj => by have := lrp j hj; omega)
  have hEE : Ext h0 h := E2.step k3.1 fun j hj => by simp [slIds] at hj; exact .inr (by omega)
  repeat' (first | refine w_seq ?_ | refine w_reg ?_ | refine w_end (by simp only [outsV, nth, setV, List.take_succ_cons, List.take_zero, List.length_cons, List.length_nil, Nat.zero_add, Nat.reduceAdd] <;> rfl) ?_ | refine w_fl rfl (by assumption) (by rfl) (by rfl) (by rfl) ?_ | refine w_lssN rfl rfl (fun hc => ?_) (fun hc => ?_) | refine w_opk rfl rfl ?_ | refine w_cond_t rfl ?_ | refine w_cond_f rfl ?_ | refine w_skip ?_ | refine w_exit rfl ?_ | refine w_ret ?_ | refine w_rt rfl ?_)
  · have hj1 : j < lp.length := by assumption
    have hj2 : j < P.length := by omega
    obtain ⟨tv, es, rt, bt⟩ := sp j lp[j] P[j] (List.getElem?_eq_getElem hj1) (List.getElem?_eq_getElem hj2)
    have hA := slot_at rp3 hj1
    rw [es] at hA
    have hty := ht _ (List.getElem_mem hj2)
    have hsp := encL_split cSeen.enc P hj2
    have hmem := List.getElem_mem hj2
    rw [encL_take cSeen.enc P hj2, ← List.append_assoc]
    have htk : P.take (j + 1) = P.take j ++ [P[j]] := (List.take_append_getElem hj2).symm
    rw [htk]
    have hl0 : (encU 9 P.length ++ encL cSeen.enc (P.take j)).length + (cSeen.enc P[j]).length ≤ 4000000000 := by
      rw [List.length_append]; omega
    generalize P[j] = s at *
    generalize encU 9 P.length ++ encL cSeen.enc (P.take j) = l0 at *
    obtain ⟨sc, st⟩ := s
    simp only at rt hty bt es hA
    have hrt := rt.lt
    have rt3 := rt.ext0 hEE
    refine w_block ?_
    repeat' (first | refine w_seq ?_ | refine w_reg ?_)
    refine w_iadrS rfl rfl rp3 hj1 ?_
    have hone : allOne [.int .i64 sc, tv] = true := by simp only [allOne, rt.one]; rfl
    refine w_loadA rfl hA rfl ?_
    refine w_alloc fun ix h4 hX hiX hE4 => ?_
    refine w_store rfl rfl hX rfl hone (by decide) (by simp) fun h5 hX2 y5 z5 => ?_
    clear hX
    have hX : Own h5 ix [.int .i64 sc, tv] := hX2
    clear hX2
    have m4 := hE4.1
    have m5 := y5.1
    have m3 := k3.1.1
    have e5 : Ext h h5 := hE4.step y5 fun j hj => by simp at hj; exact .inr (by omega)
    have lbv := k2.rs.lt
    have hXb : ix ∉ slIds bv := fun e => by have := lbv ix e; omega
    have hxi : ix ≠ io := by have := k1.1; omega
    replace k1 := k1.ext0 e5
    replace k2 := k2.ext0 e5
    have w5 := k3.ext0 e5
    have rt5 := rt3.ext0 e5
    have hil := k1.1
    have hFx := hF3.ext0 e5
    have hE5 := hEE.trans e5
    have hrt5 := rt5.lt
    clear hE4 y5 hA
    repeat' (first | refine w_seq ?_ | refine w_reg ?_ | refine w_end (by simp only [outsV, nth, setV, List.take_succ_cons, List.take_zero, List.length_cons, List.length_nil, Nat.zero_add, Nat.reduceAdd] <;> rfl) ?_ | refine w_off rfl ?_ | refine w_rf rfl (by assumption) (by rfl) (by rfl) (by rfl) ?_ | refine w_rfg rfl rfl (by assumption) (by rfl) (by rfl) (by rfl) (by rfl) ?_ | refine w_on rfl ?_ | refine w_len rfl (by assumption) ?_ | refine w_gtrN rfl rfl (fun hc => ?_) (fun hc => ?_) | refine w_lss rfl rfl (fun hc => ?_) (fun hc => ?_) | refine w_gtr rfl rfl (fun hc => ?_) (fun hc => ?_) | refine w_opk rfl rfl ?_ | refine w_cond_t rfl ?_ | refine w_cond_f rfl ?_ | refine w_skip ?_ | refine w_ret ?_ | refine w_rt rfl ?_)
    all_goals first
      | exact ⟨hE5, .nils, 131, rfl, fun hk => by
          exfalso
          have hq := (cSeen_ok _).1 (hk.2 _ hmem)
          have q1 : 0 ≤ sc := hq.1.1
          have q2 : sc ≤ 1099511627776 := hq.1.2
          have q3 : st.length ≤ 16384 := hq.2.1
          have z0 : Int.ofNat 0 = 0 := rfl
          have z1 : Int.ofNat 1099511627776 = 1099511627776 := rfl
          have z2 : (st.map topC).length = st.length := List.length_map ..
          omega, fun _ => ⟨rfl, rfl⟩⟩
      | skip
    have hst : st.length ≤ 16384 := by
      have : (st.map topC).length ≤ 16384 := by assumption
      rwa [List.length_map] at this
    have hs0 : 0 ≤ sc := by
      have : Int.ofNat 0 ≤ sc := by assumption
      exact this
    have hs1 : sc ≤ 1099511627776 := by
      have : sc ≤ Int.ofNat 1099511627776 := by assumption
      exact this
    have hok : cSeen.ok (sc, st) := (cSeen_ok _).2 ⟨⟨hs0, hs1⟩, hst, hty⟩
    obtain ⟨n, rfl⟩ : ∃ n : Nat, sc = Int.ofNat n := ⟨sc.toNat, by show sc = ((sc.toNat : Nat) : Int); omega⟩
    have hn0 : n ≤ 1099511627776 := by have : ((n : Nat) : Int) ≤ 1099511627776 := hs1; omega
    have hen : cSeen.enc (Int.ofNat n, st) = encU 9 n ++ (encU 9 st.length ++ encL cTop.enc st) := rfl
    rw [hen] at hl0 ⊢
    have rt2 := rt.ext0 E2
    clear hsp
    refine w_callv rfl rfl ((pput_ok (l := l0) (k := n) hO (by omega) k1 k2 k4 (by omega)).mono fun _ h6 ⟨bv6, p1, p2, p3, p4⟩ => ?_)
    obtain ⟨hX6, hXb6⟩ := wrOwn p3 hX hxi hXb
    have w6 := w5.trans p3
    have rt6 := wrRs w6 rt2 (fun j hj => by have := hrt j hj; omega)
    have hF6 := wrOld w6 hF2 hbf
    clear k1 k2 k3 rt5 rt3 hX
    repeat' (first | refine w_seq ?_ | refine w_reg ?_ | refine w_end (by simp only [outsV, nth, setV, List.take_succ_cons, List.take_zero, List.length_cons, List.length_nil, Nat.zero_add, Nat.reduceAdd] <;> rfl) ?_ | refine w_rf rfl (by assumption) (by rfl) (by rfl) (by rfl) ?_ | refine w_len rfl (by assumption) ?_ | refine w_opk rfl rfl ?_)
    simp only [List.length_append] at hl0
    refine w_callv rfl rfl ((pput_ok (k := (st.map topC).length) hO (by rw [List.length_map]; omega) p1 p2 p4 (by rw [List.length_append]; omega)).mono fun _ h7 ⟨bv7, q1, q2, q3, q4⟩ => ?_)
    obtain ⟨hX7, hXb7⟩ := wrOwn q3 hX6 hxi hXb6
    have w7 := w6.trans q3
    have rt7 := wrRs w7 rt2 (fun j hj => by have := hrt j hj; omega)
    have hF7 := wrOld w7 hF2 hbf
    clear p1 p2 p3 rt6 hF6
    repeat' (first | refine w_seq ?_ | refine w_reg ?_ | refine w_end (by simp only [outsV, nth, setV, List.take_succ_cons, List.take_zero, List.length_cons, List.length_nil, Nat.zero_add, Nat.reduceAdd] <;> rfl) ?_ | refine w_rf rfl (by assumption) (by rfl) (by rfl) (by rfl) ?_ | refine w_len rfl (by assumption) ?_ | refine w_opk rfl rfl ?_)
    have l1e : l0 ++ (encU 9 n ++ (encU 9 st.length ++ encL cTop.enc st)) = l0 ++ encU 9 n ++ encU 9 (st.map topC).length ++ encL cTop.enc st := by
      rw [List.length_map, List.append_assoc, List.append_assoc]
    rw [l1e]
    have hl1 : (l0 ++ encU 9 n ++ encU 9 (st.map topC).length).length + (encL cTop.enc st).length ≤ 4000000000 := by
      rw [List.length_append, List.length_append, List.length_map]; omega
    generalize l0 ++ encU 9 n ++ encU 9 (st.map topC).length = l1 at *
    clear l1e hl0 hX6 hXb6 hX7 hXb7 k4 p4 hFx hE5 w5 w6 m4 m5 m3 hen
    refine w_count (fun i vs h' => ∃ bv8 c15 c17, vs = [.agg [pv], .nils, .int .i64 0, .ptr io 0 0 1, .ptr ib 0 0 1, .bool false, .fn 25 [] [.ptr io 0 0 1], .int .i64 (.ofNat j), .int .i64 (.ofNat lp.length), .bool true, pv, .ptr ix 0 0 2, .bool false, .int .i64 (.ofNat i), .int .i64 (.ofNat (st.map topC).length), c15, tv, c17] ∧ Own h' io [bv8] ∧ Ow h' 1 bv8 ((l1 ++ encL cTop.enc (st.take i)).map byteC) ∧ WrFr io h2 .nils h' bv8 ∧ io ∉ slIds bv8) (st.map topC).length ⟨bv7, _, _, rfl, q1, by simpa [encL] using q2, w7, q4⟩ ?_
    clear q1 q2 q3 w7 q4 rt7 hF7
    rintro i vs h8 hi ⟨bv8, c15, c17, rfl, k1, k2, k3, k4⟩
    have rt8 := wrRs k3 rt2 (fun j hj => by have := hrt j hj; omega)
    repeat' (first | refine w_seq ?_ | refine w_reg ?_ | refine w_end (by simp only [outsV, nth, setV, List.take_succ_cons, List.take_zero, List.length_cons, List.length_nil, Nat.zero_add, Nat.reduceAdd] <;> rfl) ?_ | refine w_lssN rfl rfl (fun hc => ?_) (fun hc => ?_) | refine w_addN rfl rfl (by omega) ?_ | refine w_opk rfl rfl ?_ | refine w_cond_t rfl ?_ | refine w_cond_f rfl ?_ | refine w_skip ?_ | refine w_exit rfl ?_)
    · have hi1 : i < (st.map topC).length := by assumption
      have hi2 : i < st.length := by rwa [List.length_map] at hi1
      have hA := slot_at rt8 hi1
      rw [List.getElem_map] at hA
      have hmt := hty _ (List.getElem_mem hi2)
      have hsp := encL_split cTop.enc st hi2
      rw [encL_take cTop.enc st hi2, ← List.append_assoc]
      have hl2 : (l1 ++ encL cTop.enc (st.take i)).length + 2 ≤ 4000000000 := by
        rw [List.length_append]
        have : (cTop.enc st[i]).length = 2 := rfl
        omega
      generalize st[i] = t at *
      generalize l1 ++ encL cTop.enc (st.take i) = l2 at *
      obtain ⟨a, b⟩ := t
      refine w_block ?_
      repeat' (first | refine w_seq ?_ | refine w_reg ?_)
      refine w_iadrS rfl rfl rt8 hi1 ?_
      refine w_loadA rfl hA rfl ?_
      refine w_alloc fun iy h9 hY hiY hE9 => ?_
      refine w_store rfl rfl hY rfl rfl (by decide) (by simp) fun h10 hY2 y5 z5 => ?_
      clear hY
      have hY : Own h10 iy [.int .u8 a, .int .u8 b] := hY2
      clear hY2
      have e10 : Ext h8 h10 := hE9.step y5 fun j hj => by simp at hj; exact .inr (by omega)
      replace k1 := k1.ext0 e10
      replace k2 := k2.ext0 e10
      replace k3 := k3.ext0 e10
      have hil := k1.1
      clear hE9 y5 hA
      repeat' (first | refine w_reg ?_ | refine w_end (by simp only [outsV, nth, setV, List.take_succ_cons, List.take_zero, List.length_cons, List.length_nil, Nat.zero_add, Nat.reduceAdd] <;> rfl) ?_ | refine w_fl rfl (by assumption) (by rfl) (by rfl) (by rfl) ?_ | refine w_opk rfl rfl ?_)
      refine w_bslice (ps := [(0, 1, .int .u8 a), (1, 1, .int .u8 b)]) (cs := [.int .u8 a, .int .u8 b]) [[.int .u8 a], [.int .u8 b]] rfl rfl rfl rfl (by simp) fun lv h11 o1 f1 => ?_
      replace k1 := k1.ext0 f1.ext0
      replace k2 := k2.ext0 f1.ext0
      replace k3 := k3.ext0 f1.ext0
      have hil2 := k1.1
      refine w_app rfl rfl k2 o1.rs (by simp only [List.length_map, List.length_cons, List.length_nil]; omega) fun bv9 h12 t1 t2 => ?_
      have hI2 := k1.ext t2.1 (fun e => k4 e)
      refine w_store rfl rfl hI2 (by rw [V.cells1 t1.rs.one]; rfl) (by rw [V.cells1 t1.rs.one]; simp only [allOne, t1.rs.one]) (by decide) (by simp) fun h13 u1 u2 u3 => ?_
      obtain ⟨r1, r2, r3, r4⟩ := cell_more t1 t2 hil2 k4 u1 u2
      have hby : (l2.map byteC ++ [[V.int .u8 a], [V.int .u8 b]]) = (l2 ++ cTop.enc (a, b)).map byteC := by
        rw [enc_top, List.map_append, List.map_cons, List.map_cons, List.map_nil, byteC_of hmt.1.1, byteC_of hmt.2.1]
      rw [hby] at r2
      repeat' (first | refine w_reg ?_ | refine w_end (by simp only [outsV, nth, setV, List.take_succ_cons, List.take_zero, List.length_cons, List.length_nil, Nat.zero_add, Nat.reduceAdd] <;> rfl) ?_ | refine w_addN rfl rfl (by omega) ?_ | refine w_opk rfl rfl ?_)
      exact ⟨hi1, bv9, _, _, rfl, r1, r2, k3.trans r3, r4⟩
    · have hi1 : (st.map topC).length ≤ i := by assumption
      rw [List.take_of_length_le (by rwa [List.length_map] at hi1)] at k2
      skip
      exact ⟨hj1, bv8, _, _, _, _, _, _, _, _, rfl, k1, k2, k3, k4, fun s hs => by
        rcases List.mem_append.1 hs with e | e
        · exact k5 s e
        · rw [List.mem_singleton.1 e]; exact hok⟩
  · have hj1 : lp.length ≤ j := by assumption
    rw [List.take_of_length_le (by omega)] at k2 k5
    exact ⟨hEE, bv, 0, rfl, fun _ => ⟨rfl, by rw [enc_prof]; exact k2⟩, fun hk => absurd ((cProf_ok P).2 ⟨by omega, k5⟩) hk⟩
end AmT
