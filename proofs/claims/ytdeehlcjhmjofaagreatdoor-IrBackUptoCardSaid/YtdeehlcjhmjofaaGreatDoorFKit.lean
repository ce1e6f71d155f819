/-
  Small contracts of chapter 14's laws: how much code there is; bytes that are equal; a place out of any number. Conditions: none.
-/
import Derived.Test.YtdeehlcjhmjofaaGreatDoorFSame
namespace AmT
open Go Am
set_option maxRecDepth 100000
set_option maxHeartbeats 8000000
set_option linter.unusedSimpArgs false
set_option linter.unusedVariables false
variable {O : CallF}

structure OffFK (O : CallF) : Prop where
  gr : ∀ a h, O 24 a h = none
  eq : ∀ a h, O 29 a h = none
  pick : ∀ a h, O 30 a h = none

theorem bytesEq_ok (hO : OffFK O) {h0 : Heap} {va vb : V} {a b : List Nat} (ra : RS h0 1 va (a.map byteC)) (rb : RS h0 1 vb (b.map byteC)) (ha : Bytes a) (hb : Bytes b) :
    WPc tab.get O 29 [va, vb] h0 (fun v h' => (∃ r, v = .bool r ∧ (r = true ↔ a = b)) ∧ h' = h0) := by
  refine w_fn' (hO.eq _ _) rfl rfl (by simp only [c29, initV, nth] <;> rfl) ?_
  repeat' (first | refine w_seq ?_ | refine w_reg ?_ | refine w_end (by simp only [outsV, nth, setV, List.take_succ_cons, List.take_zero, List.length_cons, List.length_nil, Nat.zero_add, Nat.reduceAdd] <;> rfl) ?_ | refine w_opq rfl rfl ?_)
  refine w_toStr rfl ra ?_
  repeat' (first | refine w_opq rfl rfl ?_)
  refine w_toStr rfl rb ?_
  refine w_eqS rfl rfl ?_
  repeat' (first | refine w_end (by simp only [outsV, nth, setV, List.take_succ_cons, List.take_zero, List.length_cons, List.length_nil, Nat.zero_add, Nat.reduceAdd] <;> rfl) ?_ | refine w_opk rfl rfl ?_ | refine w_ret ?_ | refine w_rt rfl ?_)
  exact ⟨⟨_, rfl, by rw [eqBytes_iff, u8_inj ha hb]⟩, rfl⟩

theorem fgreat_ok (hO : OffFK O) {Z : Nat → Prop} {h0 : Heap} {c : List V} {f : FastA} (hf : FastR Z h0 c f) (hlen : (wFast f).length ≤ 4000000000) :
    WPc tab.get O 24 [.agg c] h0 (fun v h' => (∃ r, v = .bool r) ∧ Ext h0 h') := by
  refine w_fn' (hO.gr _ _) rfl rfl (by simp only [c24, initV, nth] <;> rfl) ?_
  have hsh := hf.shape
  refine w_seq (w_reg (w_box rfl hsh.1 hsh.2 fun iF h1 hF hiF hE1 => ?_))
  replace hF : Own h1 iF c := hF
  replace hf := hf.ext0 hE1
  obtain ⟨vc, ve, vn, le, rfl, rc, re, ke, rn⟩ := hf
  obtain ⟨fn, regs, code, exits, needs⟩ := f
  simp only at rc re ke rn ⊢
  unfold wFast at hlen
  simp only [List.length_append] at hlen
  have hcl : code.length ≤ 4000000000 := by have := encL_ge wSpec_ge code; omega
  have hel : exits.length ≤ 4000000000 := by have := encL_ge wExit_ge exits; omega
  have hnl : needs.length ≤ 4000000000 := by have := encL_ge wNeed_ge needs; omega
  have hex : ∀ e ∈ exits, (wExit e).length ≤ 4000000000 := by
    intro e he
    obtain ⟨j, hj, rfl⟩ := List.mem_iff_getElem.1 he
    have := encL_split wExit exits hj
    omega
  clear hlen
  have r1 := rc.1
  have r2 := re.1
  have r3 := rn.1
  have kl := ke.1
  repeat' (first | refine w_seq ?_ | refine w_reg ?_ | refine w_end (by simp only [outsV, nth, setV, List.take_succ_cons, List.take_zero, List.length_cons, List.length_nil, Nat.zero_add, Nat.reduceAdd] <;> rfl) ?_ | refine w_rf rfl (by assumption) (by rfl) (by rfl) (by rfl) ?_ | refine w_len rfl (by assumption) ?_ | refine w_opk rfl rfl ?_)
  refine w_count (fun j vs h => h = h1 ∧ ∃ b5 n b7 b8 b9 b10 b11, vs = [.agg [.int .i64 fn, .int .i64 regs, vc, ve, vn], .bool false, .ptr iF 0 0 5, .int .i64 (.ofNat j), .int .i64 (.ofNat le.length), b5, .int .i64 n, b7, b8, b9, b10, b11]) le.length ⟨rfl, _, _, _, _, _, _, _, rfl⟩ ?_
  rintro j vs h1 hj ⟨rfl, b5, n, b7, b8, b9, b10, b11, rfl⟩
  repeat' (first | refine w_seq ?_ | refine w_reg ?_ | refine w_end (by simp only [outsV, nth, setV, List.take_succ_cons, List.take_zero, List.length_cons, List.length_nil, Nat.zero_add, Nat.reduceAdd] <;> rfl) ?_ | refine w_lssN rfl rfl (fun hc => ?_) (fun hc => ?_) | refine w_gtr rfl rfl (fun hc => ?_) (fun hc => ?_) | refine w_opk rfl rfl ?_ | refine w_cond_t rfl ?_ | refine w_cond_f rfl ?_ | refine w_skip ?_ | refine w_exit rfl ?_ | refine w_ret ?_ | refine w_rt rfl ?_)
  · have hj1 : j < le.length := by assumption
    have hj2 : j < exits.length := by omega
    have hxl := hex _ (List.getElem_mem hj2)
    have hA1 := slot_at r2 hj1
    obtain ⟨ev, lc, eel, rev, kb⟩ := ke.get hj1 hj2
    rw [eel] at hA1
    have q1 := rev.1
    have kbl := kb.1
    generalize exits[j] = X at *
    have hXl : X.length ≤ 4000000000 := by
      have := encL_ge wBack_ge X
      simp only [wExit, List.length_append] at hxl
      omega
    refine w_block ?_
    repeat' (first | refine w_seq ?_ | refine w_reg ?_ | refine w_end (by simp only [outsV, nth, setV, List.take_succ_cons, List.take_zero, List.length_cons, List.length_nil, Nat.zero_add, Nat.reduceAdd] <;> rfl) ?_ | refine w_rf rfl (by assumption) (by rfl) (by rfl) (by rfl) ?_ | refine w_opk rfl rfl ?_)
    refine w_iadrS rfl rfl r2 hj1 ?_
    refine w_load1 (c := []) rfl hA1 rfl ?_
    repeat' (first | refine w_seq ?_ | refine w_reg ?_ | refine w_end (by simp only [outsV, nth, setV, List.take_succ_cons, List.take_zero, List.length_cons, List.length_nil, Nat.zero_add, Nat.reduceAdd] <;> rfl) ?_ | refine w_rf rfl (by assumption) (by rfl) (by rfl) (by rfl) ?_ | refine w_len rfl (by assumption) ?_ | refine w_opk rfl rfl ?_)
    refine w_iadrS rfl rfl r2 hj1 ?_
    refine w_load1 (c := []) rfl hA1 rfl ?_
    repeat' (first | refine w_end (by simp only [outsV, nth, setV, List.take_succ_cons, List.take_zero, List.length_cons, List.length_nil, Nat.zero_add, Nat.reduceAdd] <;> rfl) ?_ | refine w_len rfl (by assumption) ?_ | refine w_opk rfl rfl ?_)
    refine w_count (fun k vs h' => h' = h1 ∧ ∃ n b10 b11, vs = [.agg [.int .i64 fn, .int .i64 regs, vc, ve, vn], .bool false, .ptr iF 0 0 5, .int .i64 (.ofNat j), .int .i64 (.ofNat le.length), .bool true, .int .i64 n, .int .i64 (.ofNat j), .int .i64 (.ofNat k), .int .i64 (.ofNat lc.length), b10, b11]) lc.length ⟨rfl, _, _, _, rfl⟩ ?_
    rintro k vs h1 hk ⟨rfl, n', b10', b11', rfl⟩
    repeat' (first | refine w_seq ?_ | refine w_reg ?_ | refine w_end (by simp only [outsV, nth, setV, List.take_succ_cons, List.take_zero, List.length_cons, List.length_nil, Nat.zero_add, Nat.reduceAdd] <;> rfl) ?_ | refine w_lssN rfl rfl (fun hc => ?_) (fun hc => ?_) | refine w_addN rfl rfl (by omega) ?_ | refine w_opk rfl rfl ?_ | refine w_cond_t rfl ?_ | refine w_cond_f rfl ?_ | refine w_skip ?_ | refine w_exit rfl ?_)
    · have hk1 : k < lc.length := by assumption
      have hk2 : k < X.length := by omega
      have kB := kb.get hk1 hk2
      have hS1 := slot_at q1 hk1
      obtain ⟨vv, vs, eB, rvv, rvs⟩ := kB
      rw [eB] at hS1
      have g1 := rvv.1
      have g2 := rvs.1
      refine w_block ?_
      repeat' (first | refine w_seq ?_ | refine w_reg ?_ | refine w_end (by simp only [outsV, nth, setV, List.take_succ_cons, List.take_zero, List.length_cons, List.length_nil, Nat.zero_add, Nat.reduceAdd] <;> rfl) ?_ | refine w_rf rfl (by assumption) (by rfl) (by rfl) (by rfl) ?_ | refine w_opk rfl rfl ?_)
      refine w_iadrS rfl rfl r2 hj1 ?_
      refine w_load1 (c := []) rfl hA1 rfl ?_
      repeat' (first | refine w_opk rfl rfl ?_)
      refine w_iadrS rfl rfl q1 hk1 ?_
      refine w_fadr rfl hS1 rfl fun hS2 => ?_
      refine w_load1 rfl hS2 rfl ?_
      repeat' (first | refine w_rf rfl (by assumption) (by rfl) (by rfl) (by rfl) ?_ | refine w_len rfl (by assumption) ?_ | refine w_opk rfl rfl ?_)
      refine w_iadrS rfl rfl r2 hj1 ?_
      refine w_load1 (c := []) rfl hA1 rfl ?_
      repeat' (first | refine w_opk rfl rfl ?_)
      refine w_iadrS rfl rfl q1 hk1 ?_
      refine w_fadr rfl hS1 rfl fun hS2 => ?_
      refine w_load1 rfl hS2 rfl ?_
      repeat' (first | refine w_reg ?_ | refine w_end (by simp only [outsV, nth, setV, List.take_succ_cons, List.take_zero, List.length_cons, List.length_nil, Nat.zero_add, Nat.reduceAdd] <;> rfl) ?_ | refine w_len rfl (by assumption) ?_ | refine w_addN rfl rfl (by omega) ?_ | refine w_opk rfl rfl ?_)
      exact ⟨hk1, rfl, _, _, _, rfl⟩
    · exact ⟨hj1, rfl, _, _, _, _, _, _, _, rfl⟩
  · exact ⟨⟨_, rfl⟩, hE1⟩
  · exact ⟨⟨_, rfl⟩, hE1⟩

theorem pickN_ok (hO : OffFK O) {h0 : Heap} {n : Int} {L : Nat} (hL : 0 < L) (hL2 : L ≤ 4294967296) : WPc tab.get O 30 [.int .i64 n, .int .i64 (.ofNat L)] h0 (fun v h' => (∃ k : Nat, v = .int .i64 (.ofNat k) ∧ k < L) ∧ h' = h0) := by
  refine w_fn' (hO.pick _ _) rfl rfl (by simp only [c30, initV, nth] <;> rfl) ?_
  have hb := tmod_bound n hL
  have e0 : Int.ofNat L = (L : Int) := rfl
  repeat' (first | refine w_seq ?_ | refine w_reg ?_ | refine w_end (by simp only [outsV, nth, setV, List.take_succ_cons, List.take_zero, List.length_cons, List.length_nil, Nat.zero_add, Nat.reduceAdd] <;> rfl) ?_ | refine w_lssN rfl rfl (fun hc => ?_) (fun hc => ?_) | refine w_opk rfl rfl ?_ | refine w_cond_t rfl ?_ | refine w_cond_f rfl ?_ | refine w_skip ?_ | refine w_ret ?_ | refine w_rt rfl ?_)
  · exact absurd hc (by omega)
  refine w_rem rfl rfl (by omega) ?_
  repeat' (first | refine w_seq ?_ | refine w_reg ?_ | refine w_end (by simp only [outsV, nth, setV, List.take_succ_cons, List.take_zero, List.length_cons, List.length_nil, Nat.zero_add, Nat.reduceAdd] <;> rfl) ?_ | refine w_lss rfl rfl (fun hc => ?_) (fun hc => ?_) | refine w_opk rfl rfl ?_ | refine w_cond_t rfl ?_ | refine w_cond_f rfl ?_ | refine w_skip ?_ | refine w_ret ?_ | refine w_rt rfl ?_)
  · have hc : n.tmod (Int.ofNat L) < 0 := hc
    have hq : wrapK .i64 (Int.add (n.tmod (Int.ofNat L)) (Int.ofNat L)) = Int.ofNat (n.tmod (Int.ofNat L) + Int.ofNat L).toNat := by
      have e1 : Int.add (n.tmod (Int.ofNat L)) (Int.ofNat L) = n.tmod (Int.ofNat L) + Int.ofNat L := rfl
      rw [wrapK_eq, e1, wrap_i64_of (by omega) (by omega)]
      show _ = ((_ : Nat) : Int)
      omega
    exact ⟨⟨_, by rw [hq]; rfl, by omega⟩, rfl⟩
  · have hc : 0 ≤ n.tmod (Int.ofNat L) := hc
    have hq : n.tmod (Int.ofNat L) = Int.ofNat (n.tmod (Int.ofNat L)).toNat := by
      show _ = ((_ : Nat) : Int)
      omega
    exact ⟨⟨(n.tmod (Int.ofNat L)).toNat, by rw [← hq]; rfl, by omega⟩, rfl⟩
end AmT
