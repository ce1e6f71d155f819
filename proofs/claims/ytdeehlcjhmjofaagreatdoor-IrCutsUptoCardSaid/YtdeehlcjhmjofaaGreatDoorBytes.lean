/-
  ir.Bytes: what code is written as, or none. Conditions: its small numbers are of their kinds; it is not too long.
-/
import Derived.Test.YtdeehlcjhmjofaaGreatDoorWr
namespace AmT
open Go Am
set_option maxRecDepth 100000
set_option maxHeartbeats 8000000
set_option linter.unusedSimpArgs false
set_option linter.unusedVariables false
variable {O : CallF}

/-- The writer since its begin: what is older stays. -/
theorem wr_old {w : Nat} {hW h : Heap} {bv : V} (k : WrFr w hW .nils h bv) {id : Nat} {cs : List V} (ho : Own hW id cs) (hne : id ≠ w) : Own h id cs := ho.ext k.1 (by simp [slIds, hne])

theorem wr_own {w : Nat} {h h' : Heap} {bv bv' : V} (k : WrFr w h bv h' bv') {id : Nat} {cs : List V} (ho : Own h id cs) (h1 : id ≠ w) (h2 : id ∉ slIds bv) : Own h' id cs ∧ id ∉ slIds bv' :=
  ⟨ho.ext k.1 (by simp [h1, h2]), fun e => by
    rcases k.2 id e with e | e
    · exact h2 e
    · have := ho.1; omega⟩

theorem apart_old {hb h : Heap} {w : Nat} {bv : V} {l : List Nat} {bad : Bool} (k : WrSt hb h w bv l bad) {v : V} (hv : ∀ j ∈ slIds v, j < hb.n) : ∀ j ∈ slIds v, j ≠ w ∧ j ∉ slIds bv := fun j hj => by
  have h1 := hv j hj
  have h2 := k.1
  exact ⟨by omega, fun e => by have := (k.2.2.2.2 j e).1; omega⟩

theorem bytes_ok (hO : OffWr O) {Z : Nat → Prop} {h0 : Heap} {c : List V} {f : FastA} (hf : FastR Z h0 c f) (ht : TyF f) (hlen : (wFast f).length ≤ 4000000000) :
    WPc tab.get O 26 [.agg c] h0 (fun v h' => Ext h0 h' ∧ ∃ bv e, v = .tuple [bv, .int .i64 e] ∧ (bFast f = false → e = 0 ∧ Ow h' 1 bv ((wFast f).map byteC)) ∧ (bFast f = true → e = 130 ∧ bv = .nils)) := by
  refine w_fn' (hO.by_ _ _) rfl rfl (by simp only [c26, initV, nth] <;> rfl) ?_
  have hsh := hf.shape
  refine w_seq (w_reg (w_box rfl hsh.1 hsh.2 fun iF h1 hF hiF hE1 => ?_))
  replace hF : Own h1 iF c := hF
  have hFl := hF.1
  have m1 := hE1.1
  obtain ⟨vc, ve, vn, le, rfl, rc, re, ke, rn⟩ := hf
  obtain ⟨fn, regs, code, exits, needs⟩ := f
  simp only at rc re ke rn ⊢
  repeat' (first | refine w_seq ?_ | refine w_reg ?_ | refine w_end (by simp only [outsV, nth, setV, List.take_succ_cons, List.take_zero, List.length_cons, List.length_nil, Nat.zero_add, Nat.reduceAdd] <;> rfl) ?_ | refine w_opk rfl rfl ?_)
  refine w_build [.nils, .bool false] rfl rfl ?_
  refine w_box rfl rfl rfl fun w h2 hW hiW hE2 => ?_
  replace hW : Own h2 w [.nils, .bool false] := hW
  have hwl := hW.1
  have m2 := hE2.1
  replace hF := hF.ext0 hE2
  have s0 : WrSt h0 h2 w .nils [] false := ⟨by omega, hE1.trans hE2, hW, Ow.nils _ _, by simp [slIds]⟩
  have hFw : iF ≠ w := by omega
  clear hW hE1 hE2
  unfold wFast at hlen
  simp only [List.length_append] at hlen
  have hcl : code.length ≤ 4000000000 := by have := encL_ge wSpec_ge code; omega
  have hel : exits.length ≤ 4000000000 := by have := encL_ge wExit_ge exits; omega
  have hnl : needs.length ≤ 4000000000 := by have := encL_ge wNeed_ge needs; omega
  repeat' (first | refine w_seq ?_ | refine w_reg ?_ | refine w_end (by simp only [outsV, nth, setV, List.take_succ_cons, List.take_zero, List.length_cons, List.length_nil, Nat.zero_add, Nat.reduceAdd] <;> rfl) ?_ | refine w_rf rfl (by assumption) (by rfl) (by rfl) (by rfl) ?_ | refine w_opk rfl rfl ?_)
  refine w_bslice (ps := [(0, 1, .int .i64 fn), (1, 1, .int .i64 regs)]) (cs := [.int .i64 fn, .int .i64 regs]) ([fn, regs].map intC) rfl rfl rfl rfl (by simp [intC]) fun lv h3 o1 f1 => ?_
  have hlv : ∀ j ∈ slIds lv, h2.n ≤ j := fun j hj => (f1.2 j hj).resolve_left (by simp [slIds])
  refine w_callA [.ptr w 0 0 2, lv] rfl ((put_w_ok (ns := [fn, regs]) hO (s0.ext0 f1.ext0) o1.rs (fun j hj => ⟨fun e => by have := hlv j hj; omega, by simp [slIds]⟩) (by simp; omega) (by simp)).mono fun _ h4 ⟨bv1, s1, w1⟩ => ?_)
  replace w1 := (WrFr.of_ext (w := w) .nils f1.ext0).trans w1
  have hF1 := wr_old w1 hF hFw
  rw [List.nil_append, Bool.false_or] at s1
  have rc1 := rc.1.ext0 s1.2.1
  repeat' (first | refine w_seq ?_ | refine w_reg ?_ | refine w_end (by simp only [outsV, nth, setV, List.take_succ_cons, List.take_zero, List.length_cons, List.length_nil, Nat.zero_add, Nat.reduceAdd] <;> rfl) ?_ | refine w_rf rfl (by assumption) (by rfl) (by rfl) (by rfl) ?_ | refine w_len rfl (by assumption) ?_ | refine w_opk rfl rfl ?_)
  refine w_callA [.ptr w 0 0 2, .int .i64 (.ofNat code.length), .int .i64 (.ofNat 4000)] (by rw [List.length_map]; rfl) ((count_w_ok (n := code.length) (most := 4000) hO s1 (by decide) (by have := encL_ge wSpec_ge code; omega) (by omega)).mono fun _ h5 ⟨bv2, s2, w2⟩ => ?_)
  replace w2 := w1.trans w2
  have hF2 := wr_old w2 hF hFw
  have rc2 := rc.1.ext0 s2.2.1
  clear hF1 rc1 s1 w1
  repeat' (first | refine w_seq ?_ | refine w_reg ?_ | refine w_end (by simp only [outsV, nth, setV, List.take_succ_cons, List.take_zero, List.length_cons, List.length_nil, Nat.zero_add, Nat.reduceAdd] <;> rfl) ?_ | refine w_rf rfl (by assumption) (by rfl) (by rfl) (by rfl) ?_ | refine w_len rfl (by assumption) ?_ | refine w_opk rfl rfl ?_)
  refine w_count (fun j vs h => ∃ bv b7 b9, vs = [.agg [.int .i64 fn, .int .i64 regs, vc, ve, vn], .nils, .int .i64 0, .ptr w 0 0 2, .ptr iF 0 0 5, .int .i64 (.ofNat j), .int .i64 (.ofNat (code.map specC).length), b7, vc, b9, .any, .any, .any, .any, .any, .any, .any, .any, .any, .any, .any, .any, .any, .any, .any, .any] ∧ WrSt h0 h w bv (encL encI [fn, regs] ++ encU 9 code.length ++ encL wSpec (code.take j)) ([fn, regs].any badI || decide (4000 < code.length) || (code.take j).any bSpec) ∧ WrFr w h2 .nils h bv) (code.map specC).length ⟨_, _, _, rfl, by simpa [encL] using s2, w2⟩ ?_
  rintro j vs h hj ⟨bv, b7, b9, rfl, s3, w3⟩
  have rc3 := rc.1.ext0 s3.2.1
  have hF3 := wr_old w3 hF hFw
  repeat' (first | refine w_seq ?_ | refine w_reg ?_ | refine w_end (by simp only [outsV, nth, setV, List.take_succ_cons, List.take_zero, List.length_cons, List.length_nil, Nat.zero_add, Nat.reduceAdd] <;> rfl) ?_ | refine w_rf rfl (by assumption) (by rfl) (by rfl) (by rfl) ?_ | refine w_lssN rfl rfl (fun hc => ?_) (fun hc => ?_) | refine w_opk rfl rfl ?_ | refine w_cond_t rfl ?_ | refine w_cond_f rfl ?_ | refine w_skip ?_ | refine w_exit rfl ?_)
  · have hj1 : j < (code.map specC).length := by assumption
    have hj2 : j < code.length := by simpa using hj1
    refine w_block ?_
    repeat' (first | refine w_seq ?_ | refine w_reg ?_)
    refine w_iadrS rfl rfl rc3 hj1 ?_
    have hA := slot_at rc3 hj1
    rw [List.getElem_map] at hA
    refine w_loadA rfl hA rfl ?_
    have ty := ht.1 _ (List.getElem_mem hj2)
    have hsp := encL_split wSpec code hj2
    rw [encL_take wSpec code hj2, any_take bSpec code hj2]
    rw [← List.append_assoc, ← Bool.or_assoc]
    have hl0 : (encL encI [fn, regs] ++ encU 9 code.length ++ encL wSpec (code.take j)).length + (wSpec code[j]).length ≤ 4000000000 := by
      simp only [List.length_append]; omega
    generalize code[j] = sp at *
    obtain ⟨op, a1, a2, a3, a4, a5, ex⟩ := sp
    generalize encL encI [fn, regs] ++ encU 9 code.length ++ encL wSpec (code.take j) = l0 at *
    generalize ([fn, regs].any badI || decide (4000 < code.length) || (code.take j).any bSpec) = bad0 at *
    simp only [wSpec, List.length_append] at hl0
    have m3 := w3.1.1
    refine w_alloc fun ix h7 hX hiX hE7 => ?_
    refine w_store rfl rfl hX rfl rfl (by decide) (by simp) fun h8 hX2 y8 z8 => ?_
    clear hX
    have hX : Own h8 ix [.int .u8 op, .int .i64 a1, .int .i64 a2, .int .i64 a3, .int .i64 a4, .int .i64 a5, .int .i64 ex] := hX2
    clear hX2
    have m7 := hE7.1
    have m8 := y8.1
    have hixh : h.n ≤ ix := hiX
    have hixl := hX.1
    have hwl3 := s3.2.2.1.1
    have hb0 := s3.1
    have e8 : Ext h h8 := hE7.step y8 fun j hj => by simp at hj; exact .inr (by omega)
    have hXw : ix ≠ w := by omega
    have hXb : ix ∉ slIds bv := fun e => by have := s3.2.2.2.1.rs.lt ix e; omega
    repeat' (first | refine w_seq ?_ | refine w_reg ?_ | refine w_end (by simp only [outsV, nth, setV, List.take_succ_cons, List.take_zero, List.length_cons, List.length_nil, Nat.zero_add, Nat.reduceAdd] <;> rfl) ?_ | refine w_rf rfl (by assumption) (by rfl) (by rfl) (by rfl) ?_ | refine w_opq rfl rfl ?_)
    refine w_toI (b := op) rfl (wrap_i64_of (by omega) (by omega)) ?_
    repeat' (first | refine w_rf rfl (by assumption) (by rfl) (by rfl) (by rfl) ?_)
    refine w_bslice (ps := [(0, 1, .int .i64 op), (1, 1, .int .i64 a1), (2, 1, .int .i64 a2), (3, 1, .int .i64 a3), (4, 1, .int .i64 a4), (5, 1, .int .i64 a5)]) (cs := [.int .i64 op, .int .i64 a1, .int .i64 a2, .int .i64 a3, .int .i64 a4, .int .i64 a5]) ([op, a1, a2, a3, a4, a5].map intC) rfl rfl rfl rfl (by simp [intC]) fun lv h9 o1 f1 => ?_
    have hlv : ∀ j ∈ slIds lv, h8.n ≤ j := fun j hj => (f1.2 j hj).resolve_left (by simp [slIds])
    have m9 := f1.1.1
    refine w_callA [.ptr w 0 0 2, lv] rfl ((put_w_ok (ns := [op, a1, a2, a3, a4, a5]) hO ((s3.ext0 e8).ext0 f1.ext0) o1.rs (fun j hj => ⟨fun e => by have := hlv j hj; omega, fun e => by have := hlv j hj; have := s3.2.2.2.1.rs.lt j e; omega⟩) (by omega) (by simp)).mono fun _ h10 ⟨bv1, s4, w4⟩ => ?_)
    have w5 := (WrFr.of_ext (w := w) bv (e8.trans f1.ext0)).trans w4
    have m10 := w4.1.1
    have hX1 : Own h10 ix _ := (hX.ext0 f1.ext0).ext w4.1 (by simp [hXw, hXb])
    have hXb1 : ix ∉ slIds bv1 := fun e => by
      rcases w4.2 ix e with e | e
      · exact hXb e
      · omega
    clear hX w4 f1 o1 hlv e8 hE7 y8 s3
    have k3 := s4.2.2.1
    have z0 : Int.ofNat 1048576 = 1048576 := rfl
    have hbs : (bad0 || bSpec (op, a1, a2, a3, a4, a5, ex)) = ((bad0 || [op, a1, a2, a3, a4, a5].any badI) || (decide (ex < -1) || decide (1048576 < ex))) := by
      simp only [bSpec, Bool.or_assoc]
    rw [hbs]
    have hws : l0 ++ wSpec (op, a1, a2, a3, a4, a5, ex) = (l0 ++ encL encI [op, a1, a2, a3, a4, a5]) ++ encU 9 (zigN ex) := by
      simp only [wSpec, List.append_assoc]
    rw [hws]
    have hl1 : (l0 ++ encL encI [op, a1, a2, a3, a4, a5]).length ≤ 4000000000 := by simp only [List.length_append]; omega
    generalize l0 ++ encL encI [op, a1, a2, a3, a4, a5] = l1 at *
    generalize (bad0 || [op, a1, a2, a3, a4, a5].any badI) = bad1 at *
    generalize hnb : (bad1 || (decide (ex < -1) || decide (1048576 < ex))) = nb at *
    clear hbs hws
    cases bad1 <;> (
      repeat' (first | refine w_seq ?_ | refine w_reg ?_ | refine w_end (by simp only [outsV, nth, setV, List.take_succ_cons, List.take_zero, List.length_cons, List.length_nil, Nat.zero_add, Nat.reduceAdd] <;> rfl) ?_ | refine w_off rfl ?_ | refine w_rf rfl (by assumption) (by rfl) (by rfl) (by rfl) ?_ | refine w_rfg rfl rfl (by assumption) (by rfl) (by rfl) (by rfl) (by rfl) ?_ | refine w_on rfl ?_ | refine w_lss rfl rfl (fun hc => ?_) (fun hc => ?_) | refine w_gtr rfl rfl (fun hc => ?_) (fun hc => ?_) | refine w_opk rfl rfl ?_)
      all_goals refine w_store rfl rfl k3 rfl rfl (by decide) (by simp) fun h11 u1 u2 u3 => ?_
      all_goals obtain ⟨r1, r2⟩ := wr_bad s4 u1 u2
      all_goals replace r1 : WrSt h0 h11 w bv1 l1 nb := (by
        rw [← hnb]
        first
        | exact r1
        | (rw [show decide (ex < -1) = true from decide_eq_true (by omega)]; exact r1)
        | (rw [show decide (1048576 < ex) = true from decide_eq_true (by omega), Bool.or_true]; exact r1)
        | (rw [show decide (ex < -1) = false from decide_eq_false (by omega), show decide (1048576 < ex) = false from decide_eq_false (by omega)]; exact r1))
      all_goals have k5 := r1.2.2.1
      all_goals have k6 := r1.2.2.2.1
      all_goals have hX3 := hX1.ext u2 (by simp; omega)
      all_goals clear u1 k3
      repeat' (first | refine w_reg ?_ | refine w_end (by simp only [outsV, nth, setV, List.take_succ_cons, List.take_zero, List.length_cons, List.length_nil, Nat.zero_add, Nat.reduceAdd] <;> rfl) ?_ | refine w_rf rfl (by assumption) (by rfl) (by rfl) (by rfl) ?_ | refine w_opk rfl rfl ?_)
      all_goals refine w_call rfl ((int_ok hO.u hO.i k6 hl1).mono fun bv2 h12 ⟨t1, t2⟩ => ?_)
      all_goals have k7 := k5.ext t2.1 (fun e => (r1.2.2.2.2 w e).2 rfl)
      all_goals clear hX3
      repeat' (first | refine w_opk rfl rfl ?_)
      all_goals refine w_store rfl rfl k7 (by rw [V.cells1 t1.rs.one]; rfl) (by rw [V.cells1 t1.rs.one]; simp only [allOne, t1.rs.one]) (by decide) (by simp) fun h13 x1 x2 x3 => ?_
      all_goals obtain ⟨e1, e2⟩ := wr_more r1 t1 t2 x1 x2 r1.2.2.1.1
      repeat' (first | refine w_reg ?_ | refine w_end (by simp only [outsV, nth, setV, List.take_succ_cons, List.take_zero, List.length_cons, List.length_nil, Nat.zero_add, Nat.reduceAdd] <;> rfl) ?_ | refine w_addN rfl rfl (by omega) ?_ | refine w_opk rfl rfl ?_)
      all_goals exact ⟨hj1, bv2, _, _, rfl, e1, ((w3.trans w5).trans r2).trans e2⟩)
  have hj1 : (code.map specC).length ≤ j := by assumption
  rw [List.take_of_length_le (by simpa using hj1)] at s3
  clear rc3 rc2 hF2 s2 w2 hF3
  have hF3 := wr_old w3 hF hFw
  have re3 := re.1.ext0 s3.2.1
  repeat' (first | refine w_len rfl (by assumption) ?_)
  have kl := ke.1
  refine w_callA [.ptr w 0 0 2, .int .i64 (.ofNat exits.length), .int .i64 (.ofNat 2000)] (by rw [← kl]; rfl) ((count_w_ok (n := exits.length) (most := 2000) hO s3 (by decide) (by omega) (by simp only [List.length_append]; omega)).mono fun _ h6 ⟨bv2, s4, w4⟩ => ?_)
  replace w4 := w3.trans w4
  have hF4 := wr_old w4 hF hFw
  have re4 := re.1.ext0 s4.2.1
  clear hF3 re3 s3 w3
  repeat' (first | refine w_seq ?_ | refine w_reg ?_ | refine w_end (by simp only [outsV, nth, setV, List.take_succ_cons, List.take_zero, List.length_cons, List.length_nil, Nat.zero_add, Nat.reduceAdd] <;> rfl) ?_ | refine w_rf rfl (by assumption) (by rfl) (by rfl) (by rfl) ?_ | refine w_len rfl (by assumption) ?_ | refine w_opk rfl rfl ?_)
  refine w_count (fun j vs h => ∃ bv b5 b6 b7 b8 b9 b12 b14 b15 b16 b17 b18 b19, vs = [.agg [.int .i64 fn, .int .i64 regs, vc, ve, vn], .nils, .int .i64 0, .ptr w 0 0 2, .ptr iF 0 0 5, b5, b6, b7, b8, b9, .int .i64 (.ofNat j), .int .i64 (.ofNat le.length), b12, ve, b14, b15, b16, b17, b18, b19, .any, .any, .any, .any, .any, .any] ∧ WrSt h0 h w bv (encL encI [fn, regs] ++ encU 9 code.length ++ encL wSpec code ++ encU 9 exits.length ++ encL wExit (exits.take j)) ([fn, regs].any badI || decide (4000 < code.length) || code.any bSpec || decide (2000 < exits.length) || (exits.take j).any bExit) ∧ WrFr w h2 .nils h bv) le.length ⟨_, _, _, _, _, _, _, _, _, _, _, _, _, rfl, by simpa [encL] using s4, w4⟩ ?_
  clear hF4 re4 s4 w4 hj hj1
  rintro j vs h hj ⟨bv, b5, b6, b7, b8, b9, b12, b14, b15, b16, b17, b18, b19, rfl, s3, w3⟩
  have re3 := re.1.ext0 s3.2.1
  have hF3 := wr_old w3 hF hFw
  repeat' (first | refine w_seq ?_ | refine w_reg ?_ | refine w_end (by simp only [outsV, nth, setV, List.take_succ_cons, List.take_zero, List.length_cons, List.length_nil, Nat.zero_add, Nat.reduceAdd] <;> rfl) ?_ | refine w_rf rfl (by assumption) (by rfl) (by rfl) (by rfl) ?_ | refine w_lssN rfl rfl (fun hc => ?_) (fun hc => ?_) | refine w_opk rfl rfl ?_ | refine w_cond_t rfl ?_ | refine w_cond_f rfl ?_ | refine w_skip ?_ | refine w_exit rfl ?_)
  · have hj1 : j < le.length := by assumption
    have hj2 : j < exits.length := by omega
    refine w_block ?_
    repeat' (first | refine w_seq ?_ | refine w_reg ?_)
    refine w_iadrS rfl rfl re3 hj1 ?_
    have hA := slot_at re3 hj1
    obtain ⟨ev, lc, eel, rev, kb⟩ := ke.get hj1 hj2
    rw [eel] at hA
    refine w_load1 (c := []) rfl hA rfl ?_
    have hsp := encL_split wExit exits hj2
    have hlB : ∀ k, k < exits.length → (encL encI [fn, regs] ++ encU 9 code.length ++ encL wSpec code ++ encU 9 exits.length ++ encL wExit (exits.take j)).length + (wExit exits[j]).length ≤ 4000000000 := fun _ _ => by
      simp only [List.length_append]; omega
    have hl0 := hlB j hj2
    clear hlB
    rw [encL_take wExit exits hj2, any_take bExit exits hj2]
    rw [← List.append_assoc, ← Bool.or_assoc]
    generalize exits[j] = E at *
    generalize encL encI [fn, regs] ++ encU 9 code.length ++ encL wSpec code ++ encU 9 exits.length ++ encL wExit (exits.take j) = l0 at *
    generalize ([fn, regs].any badI || decide (4000 < code.length) || code.any bSpec || decide (2000 < exits.length) || (exits.take j).any bExit) = bad0 at *
    simp only [wExit, List.length_append] at hl0
    have hEl : E.length ≤ 4000000000 := by have := encL_ge wBack_ge E; omega
    have kbl := kb.1
    have rev3 := rev.1.ext0 s3.2.1
    clear hA
    repeat' (first | refine w_seq ?_ | refine w_reg ?_ | refine w_end (by simp only [outsV, nth, setV, List.take_succ_cons, List.take_zero, List.length_cons, List.length_nil, Nat.zero_add, Nat.reduceAdd] <;> rfl) ?_ | refine w_len rfl (by assumption) ?_ | refine w_opk rfl rfl ?_)
    refine w_callA [.ptr w 0 0 2, .int .i64 (.ofNat E.length), .int .i64 (.ofNat 3)] (by rw [← kbl]; rfl) ((count_w_ok (n := E.length) (most := 3) hO s3 (by decide) (by omega) (by omega)).mono fun _ h7 ⟨bv1, s4, w4⟩ => ?_)
    replace w4 := w3.trans w4
    have rev4 := rev.1.ext0 s4.2.1
    clear s3 w3 rev3 re3 hF3
    repeat' (first | refine w_seq ?_ | refine w_reg ?_ | refine w_end (by simp only [outsV, nth, setV, List.take_succ_cons, List.take_zero, List.length_cons, List.length_nil, Nat.zero_add, Nat.reduceAdd] <;> rfl) ?_ | refine w_len rfl (by assumption) ?_ | refine w_opk rfl rfl ?_)
    refine w_count (fun k vs h => ∃ bv b17 b19, vs = [.agg [.int .i64 fn, .int .i64 regs, vc, ve, vn], .nils, .int .i64 0, .ptr w 0 0 2, .ptr iF 0 0 5, b5, b6, b7, b8, b9, .int .i64 (.ofNat j), .int .i64 (.ofNat le.length), .bool true, ve, ev, .int .i64 (.ofNat k), .int .i64 (.ofNat lc.length), b17, ev, b19, .any, .any, .any, .any, .any, .any] ∧ WrSt h0 h w bv (l0 ++ encU 9 E.length ++ encL wBack (E.take k)) (bad0 || decide (3 < E.length) || (E.take k).any bBack) ∧ WrFr w h2 .nils h bv) lc.length ⟨_, _, _, rfl, by simpa [encL] using s4, w4⟩ ?_
    clear rev4 s4 w4
    rintro k vs h hk ⟨bv, b17, b19, rfl, s3, w3⟩
    have rev3 := rev.1.ext0 s3.2.1
    repeat' (first | refine w_seq ?_ | refine w_reg ?_ | refine w_end (by simp only [outsV, nth, setV, List.take_succ_cons, List.take_zero, List.length_cons, List.length_nil, Nat.zero_add, Nat.reduceAdd] <;> rfl) ?_ | refine w_lssN rfl rfl (fun hc => ?_) (fun hc => ?_) | refine w_addN rfl rfl (by omega) ?_ | refine w_opk rfl rfl ?_ | refine w_cond_t rfl ?_ | refine w_cond_f rfl ?_ | refine w_skip ?_ | refine w_exit rfl ?_)
    · have hk1 : k < lc.length := by assumption
      have hk2 : k < E.length := by omega
      refine w_block ?_
      repeat' (first | refine w_seq ?_ | refine w_reg ?_)
      refine w_iadrS rfl rfl rev3 hk1 ?_
      have hA := slot_at rev3 hk1
      have kB := kb.get hk1 hk2
      have hsB := kB.shape
      obtain ⟨vv, vs, eB, rvv, rvs⟩ := kB
      rw [eB] at hA hsB
      refine w_loadA rfl hA rfl ?_
      have hsp := encL_split wBack E hk2
      have hl1 : (l0 ++ encU 9 E.length ++ encL wBack (E.take k)).length + (wBack E[k]).length ≤ 4000000000 := by
        simp only [List.length_append]; omega
      rw [encL_take wBack E hk2, any_take bBack E hk2]
      rw [← List.append_assoc, ← Bool.or_assoc]
      generalize E[k] = B at *
      generalize l0 ++ encU 9 E.length ++ encL wBack (E.take k) = l1 at *
      generalize (bad0 || decide (3 < E.length) || (E.take k).any bBack) = bad1 at *
      obtain ⟨bf, ba, bvs, bst⟩ := B
      simp only at rvv rvs hA hsB
      have m3 := w3.1.1
      refine w_alloc fun ix h9 hX hiX hE9 => ?_
      refine w_store rfl rfl hX rfl hsB.2 (by decide) (by simp) fun h10 hX2 y8 z8 => ?_
      clear hX
      have hX : Own h10 ix [.int .i64 bf, .int .i64 ba, vv, vs] := hX2
      clear hX2
      have m7 := hE9.1
      have m8 := y8.1
      have hixh : h.n ≤ ix := hiX
      have hwl3 := s3.2.2.1.1
      have e8 : Ext h h10 := hE9.step y8 fun j hj => by simp at hj; exact .inr (by omega)
      have hXw : ix ≠ w := by omega
      have hXb : ix ∉ slIds bv := fun e => by have := s3.2.2.2.1.rs.lt ix e; omega
      have w4 := WrFr.of_ext (w := w) bv e8
      replace s3 := s3.ext0 e8
      clear hE9 y8
      simp only [wBack, List.length_append] at hl1
      repeat' (first | refine w_seq ?_ | refine w_reg ?_ | refine w_end (by simp only [outsV, nth, setV, List.take_succ_cons, List.take_zero, List.length_cons, List.length_nil, Nat.zero_add, Nat.reduceAdd] <;> rfl) ?_ | refine w_rf rfl (by assumption) (by rfl) (by rfl) (by rfl) ?_ | refine w_opk rfl rfl ?_)
      refine w_bslice (ps := [(0, 1, .int .i64 bf), (1, 1, .int .i64 ba)]) (cs := [.int .i64 bf, .int .i64 ba]) ([bf, ba].map intC) rfl rfl rfl rfl (by simp [intC]) fun lv h11 o1 f1 => ?_
      have hlv : ∀ j ∈ slIds lv, h10.n ≤ j := fun j hj => (f1.2 j hj).resolve_left (by simp [slIds])
      have m9 := f1.1.1
      refine w_callA [.ptr w 0 0 2, lv] rfl ((put_w_ok (ns := [bf, ba]) hO (s3.ext0 f1.ext0) o1.rs (fun j hj => ⟨fun e => by have := hlv j hj; omega, fun e => by have := hlv j hj; have := s3.2.2.2.1.rs.lt j e; omega⟩) (by omega) (by simp)).mono fun _ h12 ⟨bv2, s5, w5⟩ => ?_)
      replace w5 := (WrFr.of_ext (w := w) bv f1.ext0).trans w5
      obtain ⟨hX5, hXb5⟩ := wr_own w5 hX hXw hXb
      have rvv5 := rvv.1.ext0 s5.2.1
      have w6 := w4.trans w5
      clear hX s3 o1 f1 w5
      repeat' (first | refine w_seq ?_ | refine w_reg ?_ | refine w_end (by simp only [outsV, nth, setV, List.take_succ_cons, List.take_zero, List.length_cons, List.length_nil, Nat.zero_add, Nat.reduceAdd] <;> rfl) ?_ | refine w_rf rfl (by assumption) (by rfl) (by rfl) (by rfl) ?_ | refine w_len rfl (by assumption) ?_ | refine w_opk rfl rfl ?_)
      refine w_callA [.ptr w 0 0 2, .int .i64 (.ofNat bvs.length), .int .i64 (.ofNat 1024)] (by rw [List.length_map]; rfl) ((count_w_ok (n := bvs.length) (most := 1024) hO s5 (by decide) (by have := encL_ge encI_ge bvs; omega) (by simp only [List.length_append]; omega)).mono fun _ h13 ⟨bv3, s6, w7⟩ => ?_)
      obtain ⟨hX6, hXb6⟩ := wr_own w7 hX5 hXw hXb5
      replace w7 := w6.trans w7
      have rvv6 := rvv.1.ext0 s6.2.1
      clear hX5 s5 rvv5
      repeat' (first | refine w_seq ?_ | refine w_reg ?_ | refine w_end (by simp only [outsV, nth, setV, List.take_succ_cons, List.take_zero, List.length_cons, List.length_nil, Nat.zero_add, Nat.reduceAdd] <;> rfl) ?_ | refine w_rf rfl (by assumption) (by rfl) (by rfl) (by rfl) ?_ | refine w_opk rfl rfl ?_)
      refine w_callA [.ptr w 0 0 2, vv] rfl ((put_w_ok (ns := bvs) hO s6 rvv6 (apart_old s6 rvv.1.lt) (by simp only [List.length_append]; omega) (by have := encL_ge encI_ge bvs; omega)).mono fun _ h14 ⟨bv4, s7, w8⟩ => ?_)
      obtain ⟨hX7, hXb7⟩ := wr_own w8 hX6 hXw hXb6
      replace w8 := w7.trans w8
      have rvs7 := rvs.1.ext0 s7.2.1
      clear hX6 s6 rvv6
      repeat' (first | refine w_seq ?_ | refine w_reg ?_ | refine w_end (by simp only [outsV, nth, setV, List.take_succ_cons, List.take_zero, List.length_cons, List.length_nil, Nat.zero_add, Nat.reduceAdd] <;> rfl) ?_ | refine w_rf rfl (by assumption) (by rfl) (by rfl) (by rfl) ?_ | refine w_len rfl (by assumption) ?_ | refine w_opk rfl rfl ?_)
      refine w_callA [.ptr w 0 0 2, .int .i64 (.ofNat bst.length), .int .i64 (.ofNat 1024)] (by rw [List.length_map]; rfl) ((count_w_ok (n := bst.length) (most := 1024) hO s7 (by decide) (by have := encL_ge encI_ge bst; omega) (by simp only [List.length_append]; omega)).mono fun _ h15 ⟨bv5, s8, w9⟩ => ?_)
      obtain ⟨hX8, hXb8⟩ := wr_own w9 hX7 hXw hXb7
      replace w9 := w8.trans w9
      have rvs8 := rvs.1.ext0 s8.2.1
      clear hX7 s7 rvs7
      repeat' (first | refine w_reg ?_ | refine w_end (by simp only [outsV, nth, setV, List.take_succ_cons, List.take_zero, List.length_cons, List.length_nil, Nat.zero_add, Nat.reduceAdd] <;> rfl) ?_ | refine w_rf rfl (by assumption) (by rfl) (by rfl) (by rfl) ?_ | refine w_opk rfl rfl ?_)
      refine w_callA [.ptr w 0 0 2, vs] rfl ((put_w_ok (ns := bst) hO s8 rvs8 (apart_old s8 rvs.1.lt) (by simp only [List.length_append]; omega) (by have := encL_ge encI_ge bst; omega)).mono fun _ h16 ⟨bv6, s9, w10⟩ => ?_)
      replace w10 := w9.trans w10
      repeat' (first | refine w_reg ?_ | refine w_end (by simp only [outsV, nth, setV, List.take_succ_cons, List.take_zero, List.length_cons, List.length_nil, Nat.zero_add, Nat.reduceAdd] <;> rfl) ?_ | refine w_addN rfl rfl (by omega) ?_ | refine w_opk rfl rfl ?_)
      refine ⟨hk1, bv6, _, _, rfl, ?_, w3.trans w10⟩
      simpa only [wBack, bBack, List.append_assoc, Bool.or_assoc] using s9
    have hk1 : lc.length ≤ k := by assumption
    rw [List.take_of_length_le (by omega)] at s3
    skip
    refine ⟨hj1, bv, _, _, _, _, _, _, _, _, _, _, _, _, rfl, ?_, w3⟩
    simpa only [wExit, bExit, List.append_assoc, Bool.or_assoc] using s3
  have hj1 : le.length ≤ j := by assumption
  rw [List.take_of_length_le (by omega)] at s3
  have rn3 := rn.1.ext0 s3.2.1
  repeat' (first | refine w_len rfl (by assumption) ?_)
  refine w_callA [.ptr w 0 0 2, .int .i64 (.ofNat needs.length), .int .i64 (.ofNat 100)] (by rw [List.length_map]; rfl) ((count_w_ok (n := needs.length) (most := 100) hO s3 (by decide) (by omega) (by simp only [List.length_append]; omega)).mono fun _ h6 ⟨bv2, s4, w4⟩ => ?_)
  replace w4 := w3.trans w4
  have hF4 := wr_old w4 hF hFw
  have rn4 := rn.1.ext0 s4.2.1
  clear hF3 rn3 re3 s3 w3
  repeat' (first | refine w_seq ?_ | refine w_reg ?_ | refine w_end (by simp only [outsV, nth, setV, List.take_succ_cons, List.take_zero, List.length_cons, List.length_nil, Nat.zero_add, Nat.reduceAdd] <;> rfl) ?_ | refine w_rf rfl (by assumption) (by rfl) (by rfl) (by rfl) ?_ | refine w_len rfl (by assumption) ?_ | refine w_opk rfl rfl ?_)
  refine w_count (fun j vs h => ∃ bv b5 b6 b7 b8 b9 b10 b11 b12 b13 b14 b15 b16 b17 b18 b19 b22 b24 b25, vs = [.agg [.int .i64 fn, .int .i64 regs, vc, ve, vn], .nils, .int .i64 0, .ptr w 0 0 2, .ptr iF 0 0 5, b5, b6, b7, b8, b9, b10, b11, b12, b13, b14, b15, b16, b17, b18, b19, .int .i64 (.ofNat j), .int .i64 (.ofNat (needs.map needC).length), b22, vn, b24, b25] ∧ WrSt h0 h w bv (encL encI [fn, regs] ++ encU 9 code.length ++ encL wSpec code ++ encU 9 exits.length ++ encL wExit exits ++ encU 9 needs.length ++ encL wNeed (needs.take j)) ([fn, regs].any badI || decide (4000 < code.length) || code.any bSpec || decide (2000 < exits.length) || exits.any bExit || decide (100 < needs.length) || (needs.take j).any bNeed) ∧ WrFr w h2 .nils h bv) (needs.map needC).length ⟨_, _, _, _, _, _, _, _, _, _, _, _, _, _, _, _, _, _, _, rfl, by simpa [encL] using s4, w4⟩ ?_
  clear hF4 rn4 s4 w4 hj hj1
  rintro j vs h hj ⟨bv, b5, b6, b7, b8, b9, b10, b11, b12, b13, b14, b15, b16, b17, b18, b19, b22, b24, b25, rfl, s3, w3⟩
  have rn3 := rn.1.ext0 s3.2.1
  repeat' (first | refine w_seq ?_ | refine w_reg ?_ | refine w_end (by simp only [outsV, nth, setV, List.take_succ_cons, List.take_zero, List.length_cons, List.length_nil, Nat.zero_add, Nat.reduceAdd] <;> rfl) ?_ | refine w_lssN rfl rfl (fun hc => ?_) (fun hc => ?_) | refine w_opk rfl rfl ?_ | refine w_cond_t rfl ?_ | refine w_cond_f rfl ?_ | refine w_skip ?_ | refine w_exit rfl ?_)
  · have hj1 : j < (needs.map needC).length := by assumption
    have hj2 : j < needs.length := by simpa using hj1
    refine w_block ?_
    repeat' (first | refine w_seq ?_ | refine w_reg ?_)
    refine w_iadrS rfl rfl rn3 hj1 ?_
    have hA := slot_at rn3 hj1
    rw [List.getElem_map] at hA
    refine w_loadA rfl hA rfl ?_
    have ty := ht.2 _ (List.getElem_mem hj2)
    have hsp := encL_split wNeed needs hj2
    rw [encL_take wNeed needs hj2, any_take bNeed needs hj2]
    rw [← List.append_assoc, ← Bool.or_assoc]
    have hl0 : (encL encI [fn, regs] ++ encU 9 code.length ++ encL wSpec code ++ encU 9 exits.length ++ encL wExit exits ++ encU 9 needs.length ++ encL wNeed (needs.take j)).length + (wNeed needs[j]).length ≤ 4000000000 := by
      simp only [List.length_append]; omega
    generalize needs[j] = nd at *
    obtain ⟨nf, sm⟩ := nd
    generalize encL encI [fn, regs] ++ encU 9 code.length ++ encL wSpec code ++ encU 9 exits.length ++ encL wExit exits ++ encU 9 needs.length ++ encL wNeed (needs.take j) = l0 at *
    generalize ([fn, regs].any badI || decide (4000 < code.length) || code.any bSpec || decide (2000 < exits.length) || exits.any bExit || decide (100 < needs.length) || (needs.take j).any bNeed) = bad0 at *
    simp only [wNeed, List.length_append] at hl0
    have m3 := w3.1.1
    refine w_alloc fun ix h7 hX hiX hE7 => ?_
    refine w_store rfl rfl hX rfl rfl (by decide) (by simp) fun h8 hX2 y8 z8 => ?_
    clear hX
    have hX : Own h8 ix [.int .i64 nf, .int .u32 sm] := hX2
    clear hX2
    have m7 := hE7.1
    have m8 := y8.1
    have hixh : h.n ≤ ix := hiX
    have hwl3 := s3.2.2.1.1
    have e8 : Ext h h8 := hE7.step y8 fun j hj => by simp at hj; exact .inr (by omega)
    have hXw : ix ≠ w := by omega
    have hXb : ix ∉ slIds bv := fun e => by have := s3.2.2.2.1.rs.lt ix e; omega
    repeat' (first | refine w_seq ?_ | refine w_reg ?_ | refine w_end (by simp only [outsV, nth, setV, List.take_succ_cons, List.take_zero, List.length_cons, List.length_nil, Nat.zero_add, Nat.reduceAdd] <;> rfl) ?_ | refine w_rf rfl (by assumption) (by rfl) (by rfl) (by rfl) ?_ | refine w_opk rfl rfl ?_)
    refine w_lit1 rfl rfl rfl rfl fun lv h9 o1 f1 => ?_
    have hlv : ∀ j ∈ slIds lv, h8.n ≤ j := fun j hj => (f1.2 j hj).resolve_left (by simp [slIds])
    have m9 := f1.1.1
    refine w_callA [.ptr w 0 0 2, lv] rfl ((put_w_ok (ns := [nf]) hO ((s3.ext0 e8).ext0 f1.ext0) o1.rs (fun j hj => ⟨fun e => by have := hlv j hj; omega, fun e => by have := hlv j hj; have := s3.2.2.2.1.rs.lt j e; omega⟩) (by omega) (by simp)).mono fun _ h10 ⟨bv1, s4, w4⟩ => ?_)
    have w5 := (WrFr.of_ext (w := w) bv f1.ext0).trans w4
    obtain ⟨hX1, hXb1⟩ := wr_own w5 hX hXw hXb
    replace w5 := (WrFr.of_ext (w := w) bv e8).trans w5
    clear hX w4 f1 o1 hlv e8 hE7 y8 s3
    have k3 := s4.2.2.1
    have k6 := s4.2.2.2.1
    repeat' (first | refine w_reg ?_ | refine w_end (by simp only [outsV, nth, setV, List.take_succ_cons, List.take_zero, List.length_cons, List.length_nil, Nat.zero_add, Nat.reduceAdd] <;> rfl) ?_ | refine w_rf rfl (by assumption) (by rfl) (by rfl) (by rfl) ?_ | refine w_opq rfl rfl ?_)
    refine w_toI (b := sm) rfl (by rw [wrap_u64]; omega) ?_
    refine w_call rfl ((enc_ok (n := sm.toNat) hO.u (Int.toNat_of_nonneg ty.1).symm (by omega) k6 (by simp only [List.length_append]; omega)).mono fun bv2 h12 ⟨t1, t2⟩ => ?_)
    have k7 := k3.ext t2.1 (fun e => (s4.2.2.2.2 w e).2 rfl)
    clear hX1 k3
    repeat' (first | refine w_opk rfl rfl ?_)
    refine w_store rfl rfl k7 (by rw [V.cells1 t1.rs.one]; rfl) (by rw [V.cells1 t1.rs.one]; simp only [allOne, t1.rs.one]) (by decide) (by simp) fun h13 x1 x2 x3 => ?_
    obtain ⟨e1, e2⟩ := wr_more s4 t1 t2 x1 x2 s4.2.2.1.1
    repeat' (first | refine w_reg ?_ | refine w_end (by simp only [outsV, nth, setV, List.take_succ_cons, List.take_zero, List.length_cons, List.length_nil, Nat.zero_add, Nat.reduceAdd] <;> rfl) ?_ | refine w_addN rfl rfl (by omega) ?_ | refine w_opk rfl rfl ?_)
    refine ⟨hj1, bv2, _, _, _, _, _, _, _, _, _, _, _, _, _, _, _, _, _, _, rfl, ?_, (w3.trans w5).trans e2⟩
    simpa only [wNeed, bNeed, List.append_assoc, Bool.or_assoc] using e1
  have hj1 : (needs.map needC).length ≤ j := by assumption
  rw [List.take_of_length_le (by simpa using hj1)] at s3
  have hE := s3.2.1
  have k3 := s3.2.2.1
  have k4 := s3.2.2.2.1
  rw [show encL encI [fn, regs] ++ encU 9 code.length ++ encL wSpec code ++ encU 9 exits.length ++ encL wExit exits ++ encU 9 needs.length ++ encL wNeed needs = wFast (fn, regs, code, exits, needs) from rfl] at k4
  rw [show ([fn, regs].any badI || decide (4000 < code.length) || code.any bSpec || decide (2000 < exits.length) || exits.any bExit || decide (100 < needs.length) || needs.any bNeed) = bFast (fn, regs, code, exits, needs) from rfl] at k3
  cases hbb : bFast (fn, regs, code, exits, needs) with
  | true =>
    rw [hbb] at k3
    repeat' (first | refine w_seq ?_ | refine w_reg ?_ | refine w_end (by simp only [outsV, nth, setV, List.take_succ_cons, List.take_zero, List.length_cons, List.length_nil, Nat.zero_add, Nat.reduceAdd] <;> rfl) ?_ | refine w_fl rfl (by assumption) (by rfl) (by rfl) (by rfl) ?_ | refine w_opk rfl rfl ?_ | refine w_cond_t rfl ?_ | refine w_ret ?_ | refine w_rt rfl ?_)
    exact ⟨hE, .nils, 130, rfl, (fun e => by cases e), fun _ => ⟨rfl, rfl⟩⟩
  | false =>
    rw [hbb] at k3
    repeat' (first | refine w_seq ?_ | refine w_reg ?_ | refine w_end (by simp only [outsV, nth, setV, List.take_succ_cons, List.take_zero, List.length_cons, List.length_nil, Nat.zero_add, Nat.reduceAdd] <;> rfl) ?_ | refine w_rf rfl (by assumption) (by rfl) (by rfl) (by rfl) ?_ | refine w_fl rfl (by assumption) (by rfl) (by rfl) (by rfl) ?_ | refine w_opk rfl rfl ?_ | refine w_cond_f rfl ?_ | refine w_skip ?_ | refine w_ret ?_ | refine w_rt rfl ?_)
    exact ⟨hE, bv, 0, rfl, fun _ => ⟨rfl, k4⟩, (fun e => by cases e)⟩
end AmT
