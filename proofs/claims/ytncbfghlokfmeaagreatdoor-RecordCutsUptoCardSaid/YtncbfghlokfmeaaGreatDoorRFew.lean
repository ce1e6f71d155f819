/-
  How much there is of values and of records: an answer, at any. Conditions: lists are not too long.
-/
import Derived.Test.YtncbfghlokfmeaaGreatDoorW
namespace AmT
open Go Am
set_option maxRecDepth 100000
set_option maxHeartbeats 4000000
set_option linter.unusedSimpArgs false
set_option linter.unusedVariables false
variable {O : CallF}

structure OffRF (O : CallF) : Prop where
  pc : ∀ a h, O 89 a h = none
  few : ∀ a h, O 44 a h = none
  few19 : ∀ a h, O 20 a h = none

theorem piecesV_ok (hO : OffRF O) {Z : Nat → Prop} : ∀ (m : Nat) (a : Val) {c : List V} {lv : Int} {h0 : Heap}, sizeOf a < m → VaR Z h0 a c → RngV a → WPc tab.get O 89 [.agg c, .int .i64 lv] h0 (fun v h' => (∃ m, v = .int .i64 m) ∧ Ext h0 h')
  | 0, a, _, _, _, hm, _, _ => absurd hm (Nat.not_lt_zero _)
  | m + 1, .mk k x s l, c, lv, h0, hm, h, ht => by
    have hs := h.shape
    unfold VaR at h
    obtain ⟨v, es, e, rv0, hes⟩ := h
    unfold RngV at ht
    obtain ⟨_, _, bes, htl⟩ := ht
    have hel := hes.len
    refine w_fn' (hO.pc _ _) rfl rfl (by simp only [c89, initV, nth] <;> rfl) ?_
    refine w_seq (w_reg (w_box rfl hs.1 hs.2 fun iA h1 hA hiA hE1 => ?_))
    have rv := rv0.1.ext0 hE1
    subst e
    repeat' (first | refine w_seq ?_ | refine w_reg ?_ | refine w_e ?_ | refine w_off rfl ?_ | refine w_rf rfl (by assumption) (by rfl) (by rfl) (by rfl) ?_ | refine w_rfg rfl rfl (by assumption) (by rfl) (by rfl) (by rfl) (by rfl) ?_ | refine w_on rfl ?_ | refine w_len rfl (by assumption) ?_ | refine w_gtrN rfl rfl (fun hc => ?_) (fun hc => ?_) | refine w_lss rfl rfl (fun hc => ?_) (fun hc => ?_) | refine w_opk rfl rfl ?_ | refine w_cond_t rfl ?_ | refine w_cond_f rfl ?_ | refine w_skip ?_ | refine w_ret ?_ | refine w_rt rfl ?_)
    · exact ⟨⟨_, rfl⟩, hE1⟩
    · exact ⟨⟨_, rfl⟩, hE1⟩
    refine w_count (fun j vs h => Ext h1 h ∧ ∃ b4 b7 m b10 b11, vs = [.agg [.int .u8 k, .int .i64 x, .str s, v], .int .i64 lv, .int .i64 0, .ptr iA 0 0 4, b4, .int .i64 (.ofNat j), .int .i64 (.ofNat es.length), b7, v, .int .i64 m, b10, b11]) es.length ⟨ExtX.refl _ _, _, _, _, _, _, rfl⟩ ?_
    rintro j vs h hj ⟨hE, b4, b7, m', b10, b11, rfl⟩
    have hA' := hA.ext0 hE
    have r' := rv.ext0 hE
    repeat' (first | refine w_seq ?_ | refine w_reg ?_ | refine w_e ?_ | refine w_lssN rfl rfl (fun hc => ?_) (fun hc => ?_) | refine w_opk rfl rfl ?_ | refine w_cond_t rfl ?_ | refine w_cond_f rfl ?_ | refine w_skip ?_ | refine w_exit rfl ?_ | refine w_ret ?_ | refine w_rt rfl ?_)
    · have hje : j < es.length := by assumption
      have hjl : j < l.length := by omega
      refine w_block ?_
      repeat' (first | refine w_seq ?_ | refine w_reg ?_)
      refine w_iadrS rfl rfl r' hje ?_
      have va := (hes.get hjl hje).ext0 (hE1.trans hE)
      have hsh := va.shape
      refine w_loadA rfl (slot_at r' hje) (by rw [hsh.1]; rfl) ?_
      rw [show List.take 4 es[j] = es[j] from List.take_of_length_le (by omega)]
      refine w_new (fun p => rfl) hsh.1 rfl hsh.2 fun iX h2 hX hiX hE2 => ?_
      repeat' (first | refine w_seq ?_ | refine w_reg ?_ | refine w_e ?_ | refine w_opk rfl rfl ?_)
      refine w_loadA rfl (hX.at hsh.1) (by show Nat.ble 4 es[j].length = true; rw [hsh.1]; rfl) ?_
      rw [show List.take 4 (V.agg es[j]).cells = es[j] from List.take_of_length_le (by show es[j].length ≤ 4; omega)]
      repeat' (first | refine w_opk rfl rfl ?_)
      have hmem := List.getElem_mem hjl
      refine w_call rfl ((piecesV_ok hO m _ (by have := List.sizeOf_lt_of_mem hmem; simp only [Val.mk.sizeOf_spec] at hm; omega) (va.ext0 hE2) (htl.mem _ hmem)).mono fun v' h5 ⟨⟨m'', e1⟩, e2⟩ => ?_)
      subst e1
      repeat' (first | refine w_seq ?_ | refine w_reg ?_ | refine w_e ?_ | refine w_gtr rfl rfl (fun hc => ?_) (fun hc => ?_) | refine w_addN rfl rfl (by omega) ?_ | refine w_opk rfl rfl ?_ | refine w_cond_t rfl ?_ | refine w_cond_f rfl ?_ | refine w_skip ?_ | refine w_ret ?_ | refine w_rt rfl ?_)
      · exact ⟨⟨_, rfl⟩, (hE1.trans hE).trans (hE2.trans e2)⟩
      · exact ⟨hje, hE.trans (hE2.trans e2), _, _, _, _, _, rfl⟩
    · exact ⟨⟨_, rfl⟩, hE1.trans hE⟩

theorem fewV_ok (hO : OffRF O) {Z : Nat → Prop} {h0 : Heap} {v : V} {lc : List (List V)} {l : List Val} (hv : RSz Z h0 4 v lc) (hl : VasR Z h0 l lc) (ht : ∀ a ∈ l, RngV a) (hb : l.length ≤ 2097152) : WPc tab.get O 44 [v] h0 (fun v h' => (∃ b, v = .bool b) ∧ Ext h0 h') := by
  refine w_fn' (hO.few _ _) rfl rfl (by simp only [c44, initV, nth] <;> rfl) ?_
  have hel := hl.len
  have hv0 := hv.1
  repeat' (first | refine w_seq ?_ | refine w_reg ?_ | refine w_e ?_ | refine w_len rfl (by assumption) ?_ | refine w_opk rfl rfl ?_)
  refine w_count (fun j vs h => Ext h0 h ∧ ∃ b4 m b7, vs = [v, .bool false, .int .i64 (.ofNat j), .int .i64 (.ofNat lc.length), b4, v, .int .i64 m, b7]) lc.length ⟨ExtX.refl _ _, _, _, _, rfl⟩ ?_
  rintro j vs h hj ⟨hE, b4, m, b7, rfl⟩
  have r' := hv0.ext0 hE
  repeat' (first | refine w_seq ?_ | refine w_reg ?_ | refine w_e ?_ | refine w_lssN rfl rfl (fun hc => ?_) (fun hc => ?_) | refine w_leq rfl rfl (fun hc => ?_) (fun hc => ?_) | refine w_opk rfl rfl ?_ | refine w_cond_t rfl ?_ | refine w_cond_f rfl ?_ | refine w_skip ?_ | refine w_exit rfl ?_ | refine w_ret ?_ | refine w_rt rfl ?_)
  · have hje : j < lc.length := by assumption
    have hjl : j < l.length := by omega
    refine w_block ?_
    repeat' (first | refine w_seq ?_ | refine w_reg ?_)
    refine w_iadrS rfl rfl r' hje ?_
    have va := (hl.get hjl hje).ext0 hE
    have hsh := va.shape
    refine w_loadA rfl (slot_at r' hje) (by rw [hsh.1]; rfl) ?_
    rw [show List.take 4 lc[j] = lc[j] from List.take_of_length_le (by omega)]
    refine w_new (fun p => rfl) hsh.1 rfl hsh.2 fun iX h2 hX hiX hE2 => ?_
    repeat' (first | refine w_reg ?_ | refine w_e ?_ | refine w_opk rfl rfl ?_)
    refine w_loadA rfl (hX.at hsh.1) (by show Nat.ble 4 lc[j].length = true; rw [hsh.1]; rfl) ?_
    rw [show List.take 4 (V.agg lc[j]).cells = lc[j] from List.take_of_length_le (by show lc[j].length ≤ 4; omega)]
    refine w_call rfl ((piecesV_ok hO _ _ (Nat.lt_succ_self _) (va.ext0 hE2) (ht _ (List.getElem_mem hjl))).mono fun v' h5 ⟨⟨m', e1⟩, e2⟩ => ?_)
    subst e1
    repeat' (first | refine w_reg ?_ | refine w_e ?_ | refine w_addN rfl rfl (by omega) ?_ | refine w_opk rfl rfl ?_)
    exact ⟨hje, hE.trans (hE2.trans e2), _, _, _, rfl⟩
  · exact ⟨⟨_, rfl⟩, hE⟩
  · exact ⟨⟨_, rfl⟩, hE⟩

/-- Its lists are not too long. -/
def LenR (R : RecT) : Prop := R.2.2.1.length ≤ 2097152 ∧ R.2.2.2.1.length ≤ 2097152 ∧ R.2.2.2.2.length ≤ 2097152 ∧ ∀ e ∈ R.2.2.2.2, e.2.2.2.length ≤ 2097152

theorem few19_ok (hO : OffRF O) {Z : Nat → Prop} {h0 : Heap} {c : List V} {R : RecT} (hR : RecR Z h0 c R) (ht : TyR R) (hb : LenR R) : WPc tab.get O 20 [.agg c] h0 (fun v h' => (∃ b, v = .bool b) ∧ Ext h0 h') := by
  refine w_fn' (hO.few19 _ _) rfl rfl (by simp only [c20, initV, nth] <;> rfl) ?_
  have hsh := hR.shape
  refine w_seq (w_reg (w_box rfl hsh.1 hsh.2 fun ir h1 hX hir hE1 => ?_))
  replace hX : Own h1 ir c := hX
  have hR1 := hR.ext0 hE1
  obtain ⟨n0, n1, n2, n3, n4, n5, n6, n7, n8, n9, tag, args, state, effs, av, sv, xv, la, ls, le, rfl, rfl, hn5, r1, v1, r2, v2, r3, a3⟩ := hR1
  clear hR
  obtain ⟨_, ta, ts, te⟩ := ht
  obtain ⟨ba, bs, be, bx⟩ := hb
  simp only at ta ts te ba bs be bx
  have r30 := r3.1
  have hle := a3.1
  repeat' (first | refine w_seq ?_ | refine w_reg ?_ | refine w_e ?_ | refine w_off rfl ?_ | refine w_rf rfl (by assumption) (by rfl) (by rfl) (by rfl) ?_ | refine w_rfg rfl rfl (by assumption) (by rfl) (by rfl) (by rfl) (by rfl) ?_ | refine w_on rfl ?_ | refine w_len rfl (by assumption) ?_ | refine w_gtrN rfl rfl (fun hc => ?_) (fun hc => ?_) | refine w_opk rfl rfl ?_ | refine w_cond_t rfl ?_ | refine w_ret ?_ | refine w_rt rfl ?_)
  · exact ⟨⟨_, rfl⟩, hE1⟩
  refine w_call rfl ((fewV_ok hO r2 v2 ts bs).mono fun _ h2 ⟨⟨b, e⟩, hE2⟩ => ?_)
  subst e
  replace hX := hX.ext0 hE2
  have E2 := hE1.trans hE2
  cases b with
  | false =>
    repeat' (first | refine w_seq ?_ | refine w_reg ?_ | refine w_e ?_ | refine w_off rfl ?_ | refine w_on rfl ?_ | refine w_opk rfl rfl ?_ | refine w_cond_t rfl ?_ | refine w_ret ?_ | refine w_rt rfl ?_)
    exact ⟨⟨_, rfl⟩, E2⟩
  | true =>
  repeat' (first | refine w_fl rfl (by assumption) (by rfl) (by rfl) (by rfl) ?_ | refine w_on rfl ?_ | refine w_opk rfl rfl ?_)
  refine w_call rfl ((fewV_ok hO ⟨r1.1.ext0 hE2, r1.2⟩ (v1.ext0 hE2) ta ba).mono fun _ h3 ⟨⟨b, e⟩, hE3⟩ => ?_)
  subst e
  replace hX := hX.ext0 hE3
  have E3 := E2.trans hE3
  have E13 := hE2.trans hE3
  have r33 := r30.ext0 E13
  cases b with
  | false =>
    repeat' (first | refine w_seq ?_ | refine w_reg ?_ | refine w_e ?_ | refine w_off rfl ?_ | refine w_on rfl ?_ | refine w_opk rfl rfl ?_ | refine w_cond_t rfl ?_ | refine w_ret ?_ | refine w_rt rfl ?_)
    exact ⟨⟨_, rfl⟩, E3⟩
  | true =>
  repeat' (first | refine w_seq ?_ | refine w_reg ?_ | refine w_e ?_ | refine w_rf rfl (by assumption) (by rfl) (by rfl) (by rfl) ?_ | refine w_fl rfl (by assumption) (by rfl) (by rfl) (by rfl) ?_ | refine w_on rfl ?_ | refine w_len rfl (by assumption) ?_ | refine w_gtrN rfl rfl (fun hc => ?_) (fun hc => ?_) | refine w_opk rfl rfl ?_ | refine w_cond_t rfl ?_ | refine w_cond_f rfl ?_ | refine w_skip ?_ | refine w_ret ?_ | refine w_rt rfl ?_)
  · exact ⟨⟨_, rfl⟩, E3⟩
  refine w_count (fun j vs h => Ext h3 h ∧ ∃ b3 b6 b7 b8 m, vs = [.agg [.int .i64 n0, .int .i64 n1, .int .i64 n2, .int .i64 n3, .int .i64 n4, .str tag, av, .int .u8 n5, .int .i64 n6, .int .i64 n7, xv, .int .i64 n8, sv, .int .i64 n9], .bool false, .ptr ir 0 0 14, b3, .int .i64 (.ofNat j), .int .i64 (.ofNat le.length), b6, b7, b8, .int .i64 m]) le.length ⟨ExtX.refl _ _, _, _, _, _, _, rfl⟩ ?_
  rintro j vs h hj ⟨hE, b3, b6, b7, b8, m, rfl⟩
  have hX' := hX.ext0 hE
  have r' := r33.ext0 hE
  repeat' (first | refine w_seq ?_ | refine w_reg ?_ | refine w_e ?_ | refine w_lssN rfl rfl (fun hc => ?_) (fun hc => ?_) | refine w_leq rfl rfl (fun hc => ?_) (fun hc => ?_) | refine w_opk rfl rfl ?_ | refine w_cond_t rfl ?_ | refine w_cond_f rfl ?_ | refine w_skip ?_ | refine w_exit rfl ?_ | refine w_ret ?_ | refine w_rt rfl ?_)
  · have hj1 : j < le.length := by assumption
    have hj2 : j < effs.length := by omega
    have ae := (a3.get hj1 hj2).ext (E13.trans hE) (S := []) (by simp)
    have hmem := List.getElem_mem hj2
    have hS := slot_at r' hj1
    have q1 := te _ hmem
    have q2 := bx _ hmem
    generalize effs[j] = e at *
    obtain ⟨e1, e2, e3, e4⟩ := e
    obtain ⟨fv, flc, hce, hre, hve⟩ := ae
    simp only at hce hve q1 q2
    rw [hce] at hS
    refine w_block ?_
    repeat' (first | refine w_seq ?_ | refine w_reg ?_ | refine w_e ?_ | refine w_rf rfl (by assumption) (by rfl) (by rfl) (by rfl) ?_ | refine w_opk rfl rfl ?_)
    refine w_iadrS rfl rfl r' hj1 ?_
    refine w_fadr rfl hS rfl fun hs => ?_
    refine w_load1 (c := []) rfl hs rfl ?_
    refine w_call rfl ((fewV_ok hO hre hve q1.2.2 q2).mono fun _ h5 ⟨⟨b, e⟩, hE5⟩ => ?_)
    subst e
    have hX5 := hX'.ext0 hE5
    have r5 := r'.ext0 hE5
    have hS5 := slot_at r5 hj1
    rw [hce] at hS5
    have rf5 := hre.1.ext0 hE5
    cases b with
    | false =>
      repeat' (first | refine w_seq ?_ | refine w_reg ?_ | refine w_e ?_ | refine w_off rfl ?_ | refine w_opk rfl rfl ?_ | refine w_cond_t rfl ?_ | refine w_ret ?_ | refine w_rt rfl ?_)
      exact ⟨⟨_, rfl⟩, (E3.trans hE).trans hE5⟩
    | true =>
      repeat' (first | refine w_rfg rfl rfl (by assumption) (by rfl) (by rfl) (by rfl) (by rfl) ?_ | refine w_on rfl ?_ | refine w_opk rfl rfl ?_)
      refine w_iadrS rfl rfl r5 hj1 ?_
      refine w_on rfl (w_fadr rfl hS5 rfl fun hs => ?_)
      refine w_on rfl (w_load1 rfl hs rfl ?_)
      repeat' (first | refine w_seq ?_ | refine w_reg ?_ | refine w_e ?_ | refine w_rf rfl (by assumption) (by rfl) (by rfl) (by rfl) ?_ | refine w_on rfl ?_ | refine w_gtrN rfl rfl (fun hc => ?_) (fun hc => ?_) | refine w_opk rfl rfl ?_ | refine w_cond_t rfl ?_ | refine w_cond_f rfl ?_ | refine w_skip ?_ | refine w_ret ?_ | refine w_rt rfl ?_)
      · exact ⟨⟨_, rfl⟩, (E3.trans hE).trans hE5⟩
      refine w_iadrS rfl rfl r5 hj1 ?_
      refine w_fadr rfl hS5 rfl fun hs => ?_
      refine w_load1 (c := []) rfl hs rfl ?_
      repeat' (first | refine w_reg ?_ | refine w_e ?_ | refine w_len rfl (by assumption) ?_ | refine w_addN rfl rfl (by omega) ?_ | refine w_opk rfl rfl ?_)
      exact ⟨hj1, hE.trans hE5, _, _, _, _, _, rfl⟩
  · exact ⟨⟨_, rfl⟩, E3.trans hE⟩
  · exact ⟨⟨_, rfl⟩, E3.trans hE⟩
end AmT
