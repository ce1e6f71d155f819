/-
  IrSums answers true at any module. Conditions: the module is one, by its cells.
-/
import Derived.Test.YtofigbfckofbmaaGreatDoorHolds
import Derived.Test.YtofigbfckofbmaaGreatDoorGreat
namespace AmT
open Go Am
set_option maxRecDepth 100000
set_option maxHeartbeats 4000000
set_option linter.unusedSimpArgs false
set_option linter.unusedVariables false
variable {O : CallF}

/-- The examples are known, no other call is. -/
structure Off14 (O : CallF) : Prop extends OffHolds O where
  aw : ∀ h, O 10 [] h = some (.bool true, h)
  gr : ∀ a h, O 9 a h = none
  pick : ∀ a h, O 13 a h = none
  l1 : ∀ a h, O 3 a h = none
  l2 : ∀ a h, O 4 a h = none
  l3 : ∀ a h, O 5 a h = none

theorem w_aw {O : CallF} (hO : Off14 O) {vs ls : List V} {h : Heap} {Q : List V → Heap → Prop} {os : List AOp} (k1 : WPo tab.get O os (.bool true :: ls) vs h Q) : WPo tab.get O (⟨none, .call 10 []⟩ :: os) ls vs h Q :=
  w_call rfl (w_known (hO.aw h) k1)

theorem irSums_ok (hO : Off14 O) {h0 : Heap} {c : List V} {n : Int} (hm : ModC h0 c) (hn : (Lit.int .i64 n).wf = true) : WPc tab.get O 3 [.agg c, .int .i64 n] h0 (fun v h' => v = .bool true) := by
  refine w_fn' (hO.l1 _ _) rfl rfl (by simp only [c3, initV, nth] <;> rfl) ?_
  have hone := hm.one
  have hm0 := hm
  obtain ⟨cs, ts, fs, rs, lc, lt, lf, lr, rfl, hcs, hts, hfs, hrs, hf, hr, bf, br⟩ := hm
  obtain ⟨S, hS⟩ := fnsS_of hfs hf
  have hS0 := hS
  refine w_seq (w_reg (w_box rfl rfl hone.2 fun im h1 hM hid hE => ?_))
  replace hm0 := hm0.ext hE
  replace hS := hS.ext hE
  repeat' (first
    | refine w_seq ?_
    | refine w_reg ?_
    | refine w_end (by simp only [outsV, nth, setV, List.take_succ_cons, List.take_zero, List.length_cons, List.length_nil, Nat.zero_add, Nat.reduceAdd] <;> rfl) ?_
    | refine w_off rfl ?_
    | refine w_rf rfl (by assumption) (by rfl) (by rfl) (by rfl) ?_
    | refine w_rfg rfl rfl (by assumption) (by rfl) (by rfl) (by rfl) (by rfl) ?_
    | refine w_on rfl ?_
    | refine w_len rfl (by assumption) ?_
    | refine w_lssN rfl rfl (fun hc => ?_) (fun hc => ?_)
    | refine w_leqN rfl rfl (fun hc => ?_) (fun hc => ?_)
    | refine w_gtrN rfl rfl (fun hc => ?_) (fun hc => ?_)
    | refine w_geqN rfl rfl (fun hc => ?_) (fun hc => ?_)
    | refine w_eqlN rfl rfl (fun hc => ?_) (fun hc => ?_)
    | refine w_neqN rfl rfl (fun hc => ?_) (fun hc => ?_)
    | refine w_lss rfl rfl (fun hc => ?_) (fun hc => ?_)
    | refine w_leq rfl rfl (fun hc => ?_) (fun hc => ?_)
    | refine w_gtr rfl rfl (fun hc => ?_) (fun hc => ?_)
    | refine w_geq rfl rfl (fun hc => ?_) (fun hc => ?_)
    | refine w_eql rfl rfl (fun hc => ?_) (fun hc => ?_)
    | refine w_neq rfl rfl (fun hc => ?_) (fun hc => ?_)
    | refine w_addN rfl rfl (by omega) ?_
    | refine w_opk rfl rfl ?_
    | refine w_cond_t rfl ?_
    | refine w_cond_f rfl ?_
    | refine w_skip ?_
    | refine w_exit rfl ?_
    | refine w_ret ?_
    | refine w_rt rfl ?_)
  refine w_loadA rfl (hM.at rfl) rfl ?_
  refine w_call rfl ((great_ok hO.gr hm0).mono fun v h2 ⟨⟨b, hv⟩, hE2⟩ => ?_)
  subst hv
  replace hM := hM.ext0 hE2
  replace hm0 := hm0.ext hE2
  replace hS := hS.ext hE2
  have hfs := hS.1
  cases b with
  | true =>
    repeat' (first
      | refine w_seq ?_
      | refine w_reg ?_
      | refine w_end (by simp only [outsV, nth, setV, List.take_succ_cons, List.take_zero, List.length_cons, List.length_nil, Nat.zero_add, Nat.reduceAdd] <;> rfl) ?_
      | refine w_off rfl ?_
      | refine w_rf rfl (by assumption) (by rfl) (by rfl) (by rfl) ?_
      | refine w_rfg rfl rfl (by assumption) (by rfl) (by rfl) (by rfl) (by rfl) ?_
      | refine w_on rfl ?_
      | refine w_len rfl (by assumption) ?_
      | refine w_lssN rfl rfl (fun hc => ?_) (fun hc => ?_)
      | refine w_leqN rfl rfl (fun hc => ?_) (fun hc => ?_)
      | refine w_gtrN rfl rfl (fun hc => ?_) (fun hc => ?_)
      | refine w_geqN rfl rfl (fun hc => ?_) (fun hc => ?_)
      | refine w_eqlN rfl rfl (fun hc => ?_) (fun hc => ?_)
      | refine w_neqN rfl rfl (fun hc => ?_) (fun hc => ?_)
      | refine w_lss rfl rfl (fun hc => ?_) (fun hc => ?_)
      | refine w_leq rfl rfl (fun hc => ?_) (fun hc => ?_)
      | refine w_gtr rfl rfl (fun hc => ?_) (fun hc => ?_)
      | refine w_geq rfl rfl (fun hc => ?_) (fun hc => ?_)
      | refine w_eql rfl rfl (fun hc => ?_) (fun hc => ?_)
      | refine w_neq rfl rfl (fun hc => ?_) (fun hc => ?_)
      | refine w_addN rfl rfl (by omega) ?_
      | refine w_opk rfl rfl ?_
      | refine w_cond_t rfl ?_
      | refine w_cond_f rfl ?_
      | refine w_skip ?_
      | refine w_exit rfl ?_
      | refine w_ret ?_
      | refine w_rt rfl ?_)
    refine w_aw hO ?_
    repeat' (first
      | refine w_seq ?_
      | refine w_reg ?_
      | refine w_end (by simp only [outsV, nth, setV, List.take_succ_cons, List.take_zero, List.length_cons, List.length_nil, Nat.zero_add, Nat.reduceAdd] <;> rfl) ?_
      | refine w_off rfl ?_
      | refine w_rf rfl (by assumption) (by rfl) (by rfl) (by rfl) ?_
      | refine w_rfg rfl rfl (by assumption) (by rfl) (by rfl) (by rfl) (by rfl) ?_
      | refine w_on rfl ?_
      | refine w_len rfl (by assumption) ?_
      | refine w_lssN rfl rfl (fun hc => ?_) (fun hc => ?_)
      | refine w_leqN rfl rfl (fun hc => ?_) (fun hc => ?_)
      | refine w_gtrN rfl rfl (fun hc => ?_) (fun hc => ?_)
      | refine w_geqN rfl rfl (fun hc => ?_) (fun hc => ?_)
      | refine w_eqlN rfl rfl (fun hc => ?_) (fun hc => ?_)
      | refine w_neqN rfl rfl (fun hc => ?_) (fun hc => ?_)
      | refine w_lss rfl rfl (fun hc => ?_) (fun hc => ?_)
      | refine w_leq rfl rfl (fun hc => ?_) (fun hc => ?_)
      | refine w_gtr rfl rfl (fun hc => ?_) (fun hc => ?_)
      | refine w_geq rfl rfl (fun hc => ?_) (fun hc => ?_)
      | refine w_eql rfl rfl (fun hc => ?_) (fun hc => ?_)
      | refine w_neq rfl rfl (fun hc => ?_) (fun hc => ?_)
      | refine w_addN rfl rfl (by omega) ?_
      | refine w_opk rfl rfl ?_
      | refine w_cond_t rfl ?_
      | refine w_cond_f rfl ?_
      | refine w_skip ?_
      | refine w_exit rfl ?_
      | refine w_ret ?_
      | refine w_rt rfl ?_)
    rfl
  | false =>
    repeat' (first
      | refine w_seq ?_
      | refine w_reg ?_
      | refine w_end (by simp only [outsV, nth, setV, List.take_succ_cons, List.take_zero, List.length_cons, List.length_nil, Nat.zero_add, Nat.reduceAdd] <;> rfl) ?_
      | refine w_off rfl ?_
      | refine w_rf rfl (by assumption) (by rfl) (by rfl) (by rfl) ?_
      | refine w_rfg rfl rfl (by assumption) (by rfl) (by rfl) (by rfl) (by rfl) ?_
      | refine w_on rfl ?_
      | refine w_len rfl (by assumption) ?_
      | refine w_lssN rfl rfl (fun hc => ?_) (fun hc => ?_)
      | refine w_leqN rfl rfl (fun hc => ?_) (fun hc => ?_)
      | refine w_gtrN rfl rfl (fun hc => ?_) (fun hc => ?_)
      | refine w_geqN rfl rfl (fun hc => ?_) (fun hc => ?_)
      | refine w_eqlN rfl rfl (fun hc => ?_) (fun hc => ?_)
      | refine w_neqN rfl rfl (fun hc => ?_) (fun hc => ?_)
      | refine w_lss rfl rfl (fun hc => ?_) (fun hc => ?_)
      | refine w_leq rfl rfl (fun hc => ?_) (fun hc => ?_)
      | refine w_gtr rfl rfl (fun hc => ?_) (fun hc => ?_)
      | refine w_geq rfl rfl (fun hc => ?_) (fun hc => ?_)
      | refine w_eql rfl rfl (fun hc => ?_) (fun hc => ?_)
      | refine w_neq rfl rfl (fun hc => ?_) (fun hc => ?_)
      | refine w_addN rfl rfl (by omega) ?_
      | refine w_opk rfl rfl ?_
      | refine w_cond_t rfl ?_
      | refine w_cond_f rfl ?_
      | refine w_skip ?_
      | refine w_exit rfl ?_
      | refine w_ret ?_
      | refine w_rt rfl ?_)
    · refine w_aw hO ?_
      repeat' (first
        | refine w_seq ?_
        | refine w_reg ?_
        | refine w_end (by simp only [outsV, nth, setV, List.take_succ_cons, List.take_zero, List.length_cons, List.length_nil, Nat.zero_add, Nat.reduceAdd] <;> rfl) ?_
        | refine w_off rfl ?_
        | refine w_rf rfl (by assumption) (by rfl) (by rfl) (by rfl) ?_
        | refine w_rfg rfl rfl (by assumption) (by rfl) (by rfl) (by rfl) (by rfl) ?_
        | refine w_on rfl ?_
        | refine w_len rfl (by assumption) ?_
        | refine w_lssN rfl rfl (fun hc => ?_) (fun hc => ?_)
        | refine w_leqN rfl rfl (fun hc => ?_) (fun hc => ?_)
        | refine w_gtrN rfl rfl (fun hc => ?_) (fun hc => ?_)
        | refine w_geqN rfl rfl (fun hc => ?_) (fun hc => ?_)
        | refine w_eqlN rfl rfl (fun hc => ?_) (fun hc => ?_)
        | refine w_neqN rfl rfl (fun hc => ?_) (fun hc => ?_)
        | refine w_lss rfl rfl (fun hc => ?_) (fun hc => ?_)
        | refine w_leq rfl rfl (fun hc => ?_) (fun hc => ?_)
        | refine w_gtr rfl rfl (fun hc => ?_) (fun hc => ?_)
        | refine w_geq rfl rfl (fun hc => ?_) (fun hc => ?_)
        | refine w_eql rfl rfl (fun hc => ?_) (fun hc => ?_)
        | refine w_neq rfl rfl (fun hc => ?_) (fun hc => ?_)
        | refine w_addN rfl rfl (by omega) ?_
        | refine w_opk rfl rfl ?_
        | refine w_cond_t rfl ?_
        | refine w_cond_f rfl ?_
        | refine w_skip ?_
        | refine w_exit rfl ?_
        | refine w_ret ?_
        | refine w_rt rfl ?_)
      rfl
    have hL : 0 < lf.length := Nat.pos_of_ne_zero hc
    have hb := tmod_bound n hL
    obtain ⟨k, hk, hq⟩ := pick_range (n := n) hL
    have e0 : Int.ofNat lf.length = (lf.length : Int) := rfl
    refine w_rem rfl rfl (by omega) ?_
    repeat' (first
      | refine w_seq ?_
      | refine w_reg ?_
      | refine w_end (by simp only [outsV, nth, setV, List.take_succ_cons, List.take_zero, List.length_cons, List.length_nil, Nat.zero_add, Nat.reduceAdd] <;> rfl) ?_
      | refine w_off rfl ?_
      | refine w_rf rfl (by assumption) (by rfl) (by rfl) (by rfl) ?_
      | refine w_rfg rfl rfl (by assumption) (by rfl) (by rfl) (by rfl) (by rfl) ?_
      | refine w_on rfl ?_
      | refine w_len rfl (by assumption) ?_
      | refine w_lssN rfl rfl (fun hc => ?_) (fun hc => ?_)
      | refine w_leqN rfl rfl (fun hc => ?_) (fun hc => ?_)
      | refine w_gtrN rfl rfl (fun hc => ?_) (fun hc => ?_)
      | refine w_geqN rfl rfl (fun hc => ?_) (fun hc => ?_)
      | refine w_eqlN rfl rfl (fun hc => ?_) (fun hc => ?_)
      | refine w_neqN rfl rfl (fun hc => ?_) (fun hc => ?_)
      | refine w_lss rfl rfl (fun hc => ?_) (fun hc => ?_)
      | refine w_leq rfl rfl (fun hc => ?_) (fun hc => ?_)
      | refine w_gtr rfl rfl (fun hc => ?_) (fun hc => ?_)
      | refine w_geq rfl rfl (fun hc => ?_) (fun hc => ?_)
      | refine w_eql rfl rfl (fun hc => ?_) (fun hc => ?_)
      | refine w_neq rfl rfl (fun hc => ?_) (fun hc => ?_)
      | refine w_addN rfl rfl (by omega) ?_
      | refine w_opk rfl rfl ?_
      | refine w_cond_t rfl ?_
      | refine w_cond_f rfl ?_
      | refine w_skip ?_
      | refine w_exit rfl ?_
      | refine w_ret ?_
      | refine w_rt rfl ?_)
    have hq' : Int.tmod (wrapK .i64 (Int.add (n.tmod (Int.ofNat lf.length)) (Int.ofNat lf.length))) (Int.ofNat lf.length) = Int.ofNat k := by
      have e1 : Int.add (n.tmod (Int.ofNat lf.length)) (Int.ofNat lf.length) = n.tmod (Int.ofNat lf.length) + Int.ofNat lf.length := rfl
      rw [wrapK_eq, e1, wrap_i64_of (by omega) (by omega)]
      exact hq
    refine w_rem rfl rfl (by omega) ?_
    rw [hq']
    repeat' (first
      | refine w_seq ?_
      | refine w_reg ?_
      | refine w_end (by simp only [outsV, nth, setV, List.take_succ_cons, List.take_zero, List.length_cons, List.length_nil, Nat.zero_add, Nat.reduceAdd] <;> rfl) ?_
      | refine w_off rfl ?_
      | refine w_rf rfl (by assumption) (by rfl) (by rfl) (by rfl) ?_
      | refine w_rfg rfl rfl (by assumption) (by rfl) (by rfl) (by rfl) (by rfl) ?_
      | refine w_on rfl ?_
      | refine w_len rfl (by assumption) ?_
      | refine w_lssN rfl rfl (fun hc => ?_) (fun hc => ?_)
      | refine w_leqN rfl rfl (fun hc => ?_) (fun hc => ?_)
      | refine w_gtrN rfl rfl (fun hc => ?_) (fun hc => ?_)
      | refine w_geqN rfl rfl (fun hc => ?_) (fun hc => ?_)
      | refine w_eqlN rfl rfl (fun hc => ?_) (fun hc => ?_)
      | refine w_neqN rfl rfl (fun hc => ?_) (fun hc => ?_)
      | refine w_lss rfl rfl (fun hc => ?_) (fun hc => ?_)
      | refine w_leq rfl rfl (fun hc => ?_) (fun hc => ?_)
      | refine w_gtr rfl rfl (fun hc => ?_) (fun hc => ?_)
      | refine w_geq rfl rfl (fun hc => ?_) (fun hc => ?_)
      | refine w_eql rfl rfl (fun hc => ?_) (fun hc => ?_)
      | refine w_neq rfl rfl (fun hc => ?_) (fun hc => ?_)
      | refine w_addN rfl rfl (by omega) ?_
      | refine w_opk rfl rfl ?_
      | refine w_cond_t rfl ?_
      | refine w_cond_f rfl ?_
      | refine w_skip ?_
      | refine w_exit rfl ?_
      | refine w_ret ?_
      | refine w_rt rfl ?_)
    refine w_loadA rfl (hM.at rfl) rfl ?_
    repeat' (first
      | refine w_seq ?_
      | refine w_reg ?_
      | refine w_end (by simp only [outsV, nth, setV, List.take_succ_cons, List.take_zero, List.length_cons, List.length_nil, Nat.zero_add, Nat.reduceAdd] <;> rfl) ?_
      | refine w_off rfl ?_
      | refine w_rf rfl (by assumption) (by rfl) (by rfl) (by rfl) ?_
      | refine w_rfg rfl rfl (by assumption) (by rfl) (by rfl) (by rfl) (by rfl) ?_
      | refine w_on rfl ?_
      | refine w_len rfl (by assumption) ?_
      | refine w_lssN rfl rfl (fun hc => ?_) (fun hc => ?_)
      | refine w_leqN rfl rfl (fun hc => ?_) (fun hc => ?_)
      | refine w_gtrN rfl rfl (fun hc => ?_) (fun hc => ?_)
      | refine w_geqN rfl rfl (fun hc => ?_) (fun hc => ?_)
      | refine w_eqlN rfl rfl (fun hc => ?_) (fun hc => ?_)
      | refine w_neqN rfl rfl (fun hc => ?_) (fun hc => ?_)
      | refine w_lss rfl rfl (fun hc => ?_) (fun hc => ?_)
      | refine w_leq rfl rfl (fun hc => ?_) (fun hc => ?_)
      | refine w_gtr rfl rfl (fun hc => ?_) (fun hc => ?_)
      | refine w_geq rfl rfl (fun hc => ?_) (fun hc => ?_)
      | refine w_eql rfl rfl (fun hc => ?_) (fun hc => ?_)
      | refine w_neq rfl rfl (fun hc => ?_) (fun hc => ?_)
      | refine w_addN rfl rfl (by omega) ?_
      | refine w_opk rfl rfl ?_
      | refine w_cond_t rfl ?_
      | refine w_cond_f rfl ?_
      | refine w_skip ?_
      | refine w_exit rfl ?_
      | refine w_ret ?_
      | refine w_rt rfl ?_)
    refine w_call rfl ((sum_any hO.toOffSum rfl hone.2 hS).mono fun v h3 ⟨⟨r, hv, hr⟩, hE3⟩ => ?_)
    subst hv
    have hr : S[k]? = some r := by
      rcases hr with ⟨h, _⟩ | ⟨_, h⟩
      · simp at h; omega
      · exact h
    replace hM := hM.ext0 hE3
    replace hS := hS.ext hE3
    repeat' (first
      | refine w_seq ?_
      | refine w_reg ?_
      | refine w_end (by simp only [outsV, nth, setV, List.take_succ_cons, List.take_zero, List.length_cons, List.length_nil, Nat.zero_add, Nat.reduceAdd] <;> rfl) ?_
      | refine w_off rfl ?_
      | refine w_rf rfl (by assumption) (by rfl) (by rfl) (by rfl) ?_
      | refine w_rfg rfl rfl (by assumption) (by rfl) (by rfl) (by rfl) (by rfl) ?_
      | refine w_on rfl ?_
      | refine w_len rfl (by assumption) ?_
      | refine w_lssN rfl rfl (fun hc => ?_) (fun hc => ?_)
      | refine w_leqN rfl rfl (fun hc => ?_) (fun hc => ?_)
      | refine w_gtrN rfl rfl (fun hc => ?_) (fun hc => ?_)
      | refine w_geqN rfl rfl (fun hc => ?_) (fun hc => ?_)
      | refine w_eqlN rfl rfl (fun hc => ?_) (fun hc => ?_)
      | refine w_neqN rfl rfl (fun hc => ?_) (fun hc => ?_)
      | refine w_lss rfl rfl (fun hc => ?_) (fun hc => ?_)
      | refine w_leq rfl rfl (fun hc => ?_) (fun hc => ?_)
      | refine w_gtr rfl rfl (fun hc => ?_) (fun hc => ?_)
      | refine w_geq rfl rfl (fun hc => ?_) (fun hc => ?_)
      | refine w_eql rfl rfl (fun hc => ?_) (fun hc => ?_)
      | refine w_neq rfl rfl (fun hc => ?_) (fun hc => ?_)
      | refine w_addN rfl rfl (by omega) ?_
      | refine w_opk rfl rfl ?_
      | refine w_cond_t rfl ?_
      | refine w_cond_f rfl ?_
      | refine w_skip ?_
      | refine w_exit rfl ?_
      | refine w_ret ?_
      | refine w_rt rfl ?_)
    -- f
    refine w_build [.int .i64 (.ofNat k), .int .u32 r] rfl (by rfl) ?_
    refine w_lit1 rfl rfl rfl rfl fun nd h4 hnd hf4 => ?_
    have hE4 := hf4.ext0
    replace hM := hM.ext0 hE4
    replace hS := hS.ext hE4
    refine w_build [.int .i64 (.ofNat 0), .int .i64 (.ofNat 0), .nils, .nils, nd] rfl (by simp only [fillP, V.cells1 hnd.rs.one, allOne, hnd.rs.one]; rfl) ?_
    refine w_new (fun _ => rfl) rfl rfl (by simp only [V.cells, allOne, hnd.rs.one]; rfl) fun i7 h5 hf7 hi5 hE5 => ?_
    replace hM := hM.ext0 hE5
    replace hS := hS.ext hE5
    replace hnd := hnd.rs.ext0 hE5
    repeat' (first
      | refine w_seq ?_
      | refine w_reg ?_
      | refine w_end (by simp only [outsV, nth, setV, List.take_succ_cons, List.take_zero, List.length_cons, List.length_nil, Nat.zero_add, Nat.reduceAdd] <;> rfl) ?_
      | refine w_off rfl ?_
      | refine w_rf rfl (by assumption) (by rfl) (by rfl) (by rfl) ?_
      | refine w_rfg rfl rfl (by assumption) (by rfl) (by rfl) (by rfl) (by rfl) ?_
      | refine w_on rfl ?_
      | refine w_len rfl (by assumption) ?_
      | refine w_lssN rfl rfl (fun hc => ?_) (fun hc => ?_)
      | refine w_leqN rfl rfl (fun hc => ?_) (fun hc => ?_)
      | refine w_gtrN rfl rfl (fun hc => ?_) (fun hc => ?_)
      | refine w_geqN rfl rfl (fun hc => ?_) (fun hc => ?_)
      | refine w_eqlN rfl rfl (fun hc => ?_) (fun hc => ?_)
      | refine w_neqN rfl rfl (fun hc => ?_) (fun hc => ?_)
      | refine w_lss rfl rfl (fun hc => ?_) (fun hc => ?_)
      | refine w_leq rfl rfl (fun hc => ?_) (fun hc => ?_)
      | refine w_gtr rfl rfl (fun hc => ?_) (fun hc => ?_)
      | refine w_geq rfl rfl (fun hc => ?_) (fun hc => ?_)
      | refine w_eql rfl rfl (fun hc => ?_) (fun hc => ?_)
      | refine w_neq rfl rfl (fun hc => ?_) (fun hc => ?_)
      | refine w_addN rfl rfl (by omega) ?_
      | refine w_opk rfl rfl ?_
      | refine w_cond_t rfl ?_
      | refine w_cond_f rfl ?_
      | refine w_skip ?_
      | refine w_exit rfl ?_
      | refine w_ret ?_
      | refine w_rt rfl ?_)
    -- g
    refine w_build [.int .i64 (.ofNat k), .int .u32 r] rfl (by rfl) ?_
    repeat' (first
      | refine w_seq ?_
      | refine w_reg ?_
      | refine w_end (by simp only [outsV, nth, setV, List.take_succ_cons, List.take_zero, List.length_cons, List.length_nil, Nat.zero_add, Nat.reduceAdd] <;> rfl) ?_
      | refine w_off rfl ?_
      | refine w_rf rfl (by assumption) (by rfl) (by rfl) (by rfl) ?_
      | refine w_rfg rfl rfl (by assumption) (by rfl) (by rfl) (by rfl) (by rfl) ?_
      | refine w_on rfl ?_
      | refine w_len rfl (by assumption) ?_
      | refine w_lssN rfl rfl (fun hc => ?_) (fun hc => ?_)
      | refine w_leqN rfl rfl (fun hc => ?_) (fun hc => ?_)
      | refine w_gtrN rfl rfl (fun hc => ?_) (fun hc => ?_)
      | refine w_geqN rfl rfl (fun hc => ?_) (fun hc => ?_)
      | refine w_eqlN rfl rfl (fun hc => ?_) (fun hc => ?_)
      | refine w_neqN rfl rfl (fun hc => ?_) (fun hc => ?_)
      | refine w_lss rfl rfl (fun hc => ?_) (fun hc => ?_)
      | refine w_leq rfl rfl (fun hc => ?_) (fun hc => ?_)
      | refine w_gtr rfl rfl (fun hc => ?_) (fun hc => ?_)
      | refine w_geq rfl rfl (fun hc => ?_) (fun hc => ?_)
      | refine w_eql rfl rfl (fun hc => ?_) (fun hc => ?_)
      | refine w_neq rfl rfl (fun hc => ?_) (fun hc => ?_)
      | refine w_addN rfl rfl (by omega) ?_
      | refine w_opk rfl rfl ?_
      | refine w_cond_t rfl ?_
      | refine w_cond_f rfl ?_
      | refine w_skip ?_
      | refine w_exit rfl ?_
      | refine w_ret ?_
      | refine w_rt rfl ?_)
    refine w_build [.int .i64 (.ofNat k), .int .u32 (wrapK .u32 (Int.add r (Int.ofNat 1)))] rfl (by rfl) ?_
    refine w_bslice [[.int .i64 (.ofNat k), .int .u32 r], [.int .i64 (.ofNat k), .int .u32 (wrapK .u32 (Int.add r (Int.ofNat 1)))]] rfl (by rfl) rfl rfl (by simp) fun nd2 h6 hnd2 hf6 => ?_
    have hE6 := hf6.ext0
    replace hM := hM.ext0 hE6
    replace hS := hS.ext hE6
    replace hnd := hnd.ext0 hE6
    replace hf7 := hf7.ext0 hE6
    refine w_build [.int .i64 (.ofNat 0), .int .i64 (.ofNat 0), .nils, .nils, nd2] rfl (by simp only [fillP, V.cells1 hnd2.rs.one, allOne, hnd2.rs.one]; rfl) ?_
    refine w_new (fun _ => rfl) rfl rfl (by simp only [V.cells, allOne, hnd2.rs.one]; rfl) fun i8 h7 hf8 hi7 hE7 => ?_
    replace hM := hM.ext0 hE7
    replace hS := hS.ext hE7
    replace hnd := hnd.ext0 hE7
    replace hf7 := hf7.ext0 hE7
    replace hnd2 := hnd2.rs.ext0 hE7
    have hfs2 := hS.1
    repeat' (first
      | refine w_seq ?_
      | refine w_reg ?_
      | refine w_end (by simp only [outsV, nth, setV, List.take_succ_cons, List.take_zero, List.length_cons, List.length_nil, Nat.zero_add, Nat.reduceAdd] <;> rfl) ?_
      | refine w_off rfl ?_
      | refine w_rf rfl (by assumption) (by rfl) (by rfl) (by rfl) ?_
      | refine w_rfg rfl rfl (by assumption) (by rfl) (by rfl) (by rfl) (by rfl) ?_
      | refine w_on rfl ?_
      | refine w_len rfl (by assumption) ?_
      | refine w_lssN rfl rfl (fun hc => ?_) (fun hc => ?_)
      | refine w_leqN rfl rfl (fun hc => ?_) (fun hc => ?_)
      | refine w_gtrN rfl rfl (fun hc => ?_) (fun hc => ?_)
      | refine w_geqN rfl rfl (fun hc => ?_) (fun hc => ?_)
      | refine w_eqlN rfl rfl (fun hc => ?_) (fun hc => ?_)
      | refine w_neqN rfl rfl (fun hc => ?_) (fun hc => ?_)
      | refine w_lss rfl rfl (fun hc => ?_) (fun hc => ?_)
      | refine w_leq rfl rfl (fun hc => ?_) (fun hc => ?_)
      | refine w_gtr rfl rfl (fun hc => ?_) (fun hc => ?_)
      | refine w_geq rfl rfl (fun hc => ?_) (fun hc => ?_)
      | refine w_eql rfl rfl (fun hc => ?_) (fun hc => ?_)
      | refine w_neq rfl rfl (fun hc => ?_) (fun hc => ?_)
      | refine w_addN rfl rfl (by omega) ?_
      | refine w_opk rfl rfl ?_
      | refine w_cond_t rfl ?_
      | refine w_cond_f rfl ?_
      | refine w_skip ?_
      | refine w_exit rfl ?_
      | refine w_ret ?_
      | refine w_rt rfl ?_)
    -- h
    refine w_build [.int .i64 (.ofNat lf.length), .int .u32 0] rfl (by rfl) ?_
    refine w_lit1 rfl rfl rfl rfl fun nd3 h8 hnd3 hf8' => ?_
    have hE8 := hf8'.ext0
    replace hM := hM.ext0 hE8
    replace hS := hS.ext hE8
    replace hnd := hnd.ext0 hE8
    replace hf7 := hf7.ext0 hE8
    replace hnd2 := hnd2.ext0 hE8
    replace hf8 := hf8.ext0 hE8
    refine w_build [.int .i64 (.ofNat 0), .int .i64 (.ofNat 0), .nils, .nils, nd3] rfl (by simp only [fillP, V.cells1 hnd3.rs.one, allOne, hnd3.rs.one]; rfl) ?_
    refine w_new (fun _ => rfl) rfl rfl (by simp only [V.cells, allOne, hnd3.rs.one]; rfl) fun i9 h9 hf9 hi9 hE9 => ?_
    replace hM := hM.ext0 hE9
    replace hS := hS.ext hE9
    replace hnd := hnd.ext0 hE9
    replace hf7 := hf7.ext0 hE9
    replace hnd2 := hnd2.ext0 hE9
    replace hf8 := hf8.ext0 hE9
    replace hnd3 := hnd3.rs.ext0 hE9
    repeat' (first
      | refine w_seq ?_
      | refine w_reg ?_
      | refine w_end (by simp only [outsV, nth, setV, List.take_succ_cons, List.take_zero, List.length_cons, List.length_nil, Nat.zero_add, Nat.reduceAdd] <;> rfl) ?_
      | refine w_off rfl ?_
      | refine w_rf rfl (by assumption) (by rfl) (by rfl) (by rfl) ?_
      | refine w_rfg rfl rfl (by assumption) (by rfl) (by rfl) (by rfl) (by rfl) ?_
      | refine w_on rfl ?_
      | refine w_len rfl (by assumption) ?_
      | refine w_lssN rfl rfl (fun hc => ?_) (fun hc => ?_)
      | refine w_leqN rfl rfl (fun hc => ?_) (fun hc => ?_)
      | refine w_gtrN rfl rfl (fun hc => ?_) (fun hc => ?_)
      | refine w_geqN rfl rfl (fun hc => ?_) (fun hc => ?_)
      | refine w_eqlN rfl rfl (fun hc => ?_) (fun hc => ?_)
      | refine w_neqN rfl rfl (fun hc => ?_) (fun hc => ?_)
      | refine w_lss rfl rfl (fun hc => ?_) (fun hc => ?_)
      | refine w_leq rfl rfl (fun hc => ?_) (fun hc => ?_)
      | refine w_gtr rfl rfl (fun hc => ?_) (fun hc => ?_)
      | refine w_geq rfl rfl (fun hc => ?_) (fun hc => ?_)
      | refine w_eql rfl rfl (fun hc => ?_) (fun hc => ?_)
      | refine w_neq rfl rfl (fun hc => ?_) (fun hc => ?_)
      | refine w_addN rfl rfl (by omega) ?_
      | refine w_opk rfl rfl ?_
      | refine w_cond_t rfl ?_
      | refine w_cond_f rfl ?_
      | refine w_skip ?_
      | refine w_exit rfl ?_
      | refine w_ret ?_
      | refine w_rt rfl ?_)
    -- n
    refine w_loadA rfl (hM.at rfl) rfl ?_
    have hMi := hM.1
    have h7i := hf7.1
    have h8i := hf8.1
    have h9i := hf9.1
    have l1 := hnd.lt
    have l2 := hnd2.lt
    have l3 := hnd3.lt
    refine w_new (fun _ => rfl) rfl rfl hone.2 fun i6 h10 hn6 hi10 hE10 => ?_
    replace hM := hM.ext0 hE10
    replace hS := hS.ext hE10
    replace hnd := hnd.ext0 hE10
    replace hf7 := hf7.ext0 hE10
    replace hnd2 := hnd2.ext0 hE10
    replace hf8 := hf8.ext0 hE10
    replace hnd3 := hnd3.ext0 hE10
    replace hf9 := hf9.ext0 hE10
    replace hn6 : Own h10 i6 [cs, ts, fs, rs] := hn6
    repeat' (first
      | refine w_seq ?_
      | refine w_reg ?_
      | refine w_end (by simp only [outsV, nth, setV, List.take_succ_cons, List.take_zero, List.length_cons, List.length_nil, Nat.zero_add, Nat.reduceAdd] <;> rfl) ?_
      | refine w_off rfl ?_
      | refine w_rf rfl (by assumption) (by rfl) (by rfl) (by rfl) ?_
      | refine w_rfg rfl rfl (by assumption) (by rfl) (by rfl) (by rfl) (by rfl) ?_
      | refine w_on rfl ?_
      | refine w_len rfl (by assumption) ?_
      | refine w_lssN rfl rfl (fun hc => ?_) (fun hc => ?_)
      | refine w_leqN rfl rfl (fun hc => ?_) (fun hc => ?_)
      | refine w_gtrN rfl rfl (fun hc => ?_) (fun hc => ?_)
      | refine w_geqN rfl rfl (fun hc => ?_) (fun hc => ?_)
      | refine w_eqlN rfl rfl (fun hc => ?_) (fun hc => ?_)
      | refine w_neqN rfl rfl (fun hc => ?_) (fun hc => ?_)
      | refine w_lss rfl rfl (fun hc => ?_) (fun hc => ?_)
      | refine w_leq rfl rfl (fun hc => ?_) (fun hc => ?_)
      | refine w_gtr rfl rfl (fun hc => ?_) (fun hc => ?_)
      | refine w_geq rfl rfl (fun hc => ?_) (fun hc => ?_)
      | refine w_eql rfl rfl (fun hc => ?_) (fun hc => ?_)
      | refine w_neq rfl rfl (fun hc => ?_) (fun hc => ?_)
      | refine w_addN rfl rfl (by omega) ?_
      | refine w_opk rfl rfl ?_
      | refine w_cond_t rfl ?_
      | refine w_cond_f rfl ?_
      | refine w_skip ?_
      | refine w_exit rfl ?_
      | refine w_ret ?_
      | refine w_rt rfl ?_)
    refine w_store rfl rfl hn6 rfl rfl (by decide) (by simp) fun h11 hn7 hE11 _ => ?_
    repeat' (first
      | refine w_seq ?_
      | refine w_reg ?_
      | refine w_end (by simp only [outsV, nth, setV, List.take_succ_cons, List.take_zero, List.length_cons, List.length_nil, Nat.zero_add, Nat.reduceAdd] <;> rfl) ?_
      | refine w_off rfl ?_
      | refine w_rf rfl (by assumption) (by rfl) (by rfl) (by rfl) ?_
      | refine w_rfg rfl rfl (by assumption) (by rfl) (by rfl) (by rfl) (by rfl) ?_
      | refine w_on rfl ?_
      | refine w_len rfl (by assumption) ?_
      | refine w_lssN rfl rfl (fun hc => ?_) (fun hc => ?_)
      | refine w_leqN rfl rfl (fun hc => ?_) (fun hc => ?_)
      | refine w_gtrN rfl rfl (fun hc => ?_) (fun hc => ?_)
      | refine w_geqN rfl rfl (fun hc => ?_) (fun hc => ?_)
      | refine w_eqlN rfl rfl (fun hc => ?_) (fun hc => ?_)
      | refine w_neqN rfl rfl (fun hc => ?_) (fun hc => ?_)
      | refine w_lss rfl rfl (fun hc => ?_) (fun hc => ?_)
      | refine w_leq rfl rfl (fun hc => ?_) (fun hc => ?_)
      | refine w_gtr rfl rfl (fun hc => ?_) (fun hc => ?_)
      | refine w_geq rfl rfl (fun hc => ?_) (fun hc => ?_)
      | refine w_eql rfl rfl (fun hc => ?_) (fun hc => ?_)
      | refine w_neq rfl rfl (fun hc => ?_) (fun hc => ?_)
      | refine w_addN rfl rfl (by omega) ?_
      | refine w_opk rfl rfl ?_
      | refine w_cond_t rfl ?_
      | refine w_cond_f rfl ?_
      | refine w_skip ?_
      | refine w_exit rfl ?_
      | refine w_ret ?_
      | refine w_rt rfl ?_)
    refine w_store rfl rfl hn7 rfl rfl (by decide) (by simp [splice, over]) fun h12 hn8 hE12 _ => ?_
    repeat' (first
      | refine w_seq ?_
      | refine w_reg ?_
      | refine w_end (by simp only [outsV, nth, setV, List.take_succ_cons, List.take_zero, List.length_cons, List.length_nil, Nat.zero_add, Nat.reduceAdd] <;> rfl) ?_
      | refine w_off rfl ?_
      | refine w_rf rfl (by assumption) (by rfl) (by rfl) (by rfl) ?_
      | refine w_rfg rfl rfl (by assumption) (by rfl) (by rfl) (by rfl) (by rfl) ?_
      | refine w_on rfl ?_
      | refine w_len rfl (by assumption) ?_
      | refine w_lssN rfl rfl (fun hc => ?_) (fun hc => ?_)
      | refine w_leqN rfl rfl (fun hc => ?_) (fun hc => ?_)
      | refine w_gtrN rfl rfl (fun hc => ?_) (fun hc => ?_)
      | refine w_geqN rfl rfl (fun hc => ?_) (fun hc => ?_)
      | refine w_eqlN rfl rfl (fun hc => ?_) (fun hc => ?_)
      | refine w_neqN rfl rfl (fun hc => ?_) (fun hc => ?_)
      | refine w_lss rfl rfl (fun hc => ?_) (fun hc => ?_)
      | refine w_leq rfl rfl (fun hc => ?_) (fun hc => ?_)
      | refine w_gtr rfl rfl (fun hc => ?_) (fun hc => ?_)
      | refine w_geq rfl rfl (fun hc => ?_) (fun hc => ?_)
      | refine w_eql rfl rfl (fun hc => ?_) (fun hc => ?_)
      | refine w_neq rfl rfl (fun hc => ?_) (fun hc => ?_)
      | refine w_addN rfl rfl (by omega) ?_
      | refine w_opk rfl rfl ?_
      | refine w_cond_t rfl ?_
      | refine w_cond_f rfl ?_
      | refine w_skip ?_
      | refine w_exit rfl ?_
      | refine w_ret ?_
      | refine w_rt rfl ?_)
    refine w_store rfl rfl hn8 rfl rfl (by decide) (by simp [splice, over]) fun h13 hn9 hE13 _ => ?_
    replace hn9 : Own h13 i6 [.nils, .nils, fs, .nils] := hn9
    have hEE := (hE11.trans hE12).trans hE13
    have hE0 : Ext h0 h10 := ((((((((hE.trans hE2).trans hE3).trans hE4).trans hE5).trans hE6).trans hE7).trans hE8).trans hE9).trans hE10
    have hE1 : Ext h0 h13 := hE0.step hEE fun j hj => by
      simp at hj; subst hj
      have := hE0.1; have := (((((((hE.trans hE2).trans hE3).trans hE4).trans hE5).trans hE6).trans hE7).trans hE8).trans hE9 |>.1
      exact .inr (by omega)
    replace hM := hM.ext hEE (by simp; omega)
    replace hf7 := hf7.ext hEE (by simp; omega)
    replace hf8 := hf8.ext hEE (by simp; omega)
    replace hf9 := hf9.ext hEE (by simp; omega)
    replace hnd := hnd.ext hEE (fun jd off len ver e f hv => by have := l1 jd (by rw [hv]; simp [slIds]); simp; omega)
    replace hnd2 := hnd2.ext hEE (fun jd off len ver e f hv => by have := l2 jd (by rw [hv]; simp [slIds]); simp; omega)
    replace hnd3 := hnd3.ext hEE (fun jd off len ver e f hv => by have := l3 jd (by rw [hv]; simp [slIds]); simp; omega)
    replace hS := hS0.ext hE1
    have hfs3 := hS.1
    clear hE11 hE12 hE13 hEE hn6 hn7 hn8 hE10 hE9 hE8 hE7 hE6 hE5 hE4 hE3 hf4 hf6 hf8' hm0 hfs hfs2
    have hn1 : needOk S (Int.ofNat k) r = true := decide_eq_true ⟨Int.natCast_nonneg _, hr⟩
    have hn2 : needOk S (Int.ofNat k) (wrapK .u32 (Int.add r (Int.ofNat 1))) = false := by
      refine decide_eq_false fun h => ?_
      have h2 := h.2
      rw [show (Int.ofNat k).toNat = k from rfl, hr] at h2
      simp only [Option.some.injEq] at h2
      rw [wrapK_eq] at h2
      simp only [IntKind.wrap, IntKind.signed, IntKind.bits, Bool.false_and, Bool.false_eq_true, if_false] at h2
      have e1 : Int.add r (Int.ofNat 1) = r + 1 := rfl
      rw [e1] at h2
      omega
    have hn3 : needOk S (Int.ofNat lf.length) 0 = false := by
      refine decide_eq_false fun h => ?_
      have h2 := h.2
      rw [show (Int.ofNat lf.length).toNat = lf.length from rfl, List.getElem?_eq_none (by rw [hS.2.1]; omega)] at h2
      cases h2
    have hn4 : needOk [] (Int.ofNat k) r = false := decide_eq_false fun h => by simp at h
    repeat' (first
      | refine w_seq ?_
      | refine w_reg ?_
      | refine w_end (by simp only [outsV, nth, setV, List.take_succ_cons, List.take_zero, List.length_cons, List.length_nil, Nat.zero_add, Nat.reduceAdd] <;> rfl) ?_
      | refine w_off rfl ?_
      | refine w_rf rfl (by assumption) (by rfl) (by rfl) (by rfl) ?_
      | refine w_rfg rfl rfl (by assumption) (by rfl) (by rfl) (by rfl) (by rfl) ?_
      | refine w_on rfl ?_
      | refine w_len rfl (by assumption) ?_
      | refine w_lssN rfl rfl (fun hc => ?_) (fun hc => ?_)
      | refine w_leqN rfl rfl (fun hc => ?_) (fun hc => ?_)
      | refine w_gtrN rfl rfl (fun hc => ?_) (fun hc => ?_)
      | refine w_geqN rfl rfl (fun hc => ?_) (fun hc => ?_)
      | refine w_eqlN rfl rfl (fun hc => ?_) (fun hc => ?_)
      | refine w_neqN rfl rfl (fun hc => ?_) (fun hc => ?_)
      | refine w_lss rfl rfl (fun hc => ?_) (fun hc => ?_)
      | refine w_leq rfl rfl (fun hc => ?_) (fun hc => ?_)
      | refine w_gtr rfl rfl (fun hc => ?_) (fun hc => ?_)
      | refine w_geq rfl rfl (fun hc => ?_) (fun hc => ?_)
      | refine w_eql rfl rfl (fun hc => ?_) (fun hc => ?_)
      | refine w_neq rfl rfl (fun hc => ?_) (fun hc => ?_)
      | refine w_addN rfl rfl (by omega) ?_
      | refine w_opk rfl rfl ?_
      | refine w_cond_t rfl ?_
      | refine w_cond_f rfl ?_
      | refine w_skip ?_
      | refine w_exit rfl ?_
      | refine w_ret ?_
      | refine w_rt rfl ?_)
    -- Holds(m, f)
    refine w_loadA rfl (hM.at rfl) rfl ?_
    refine w_loadA rfl (hf7.at rfl) rfl ?_
    refine w_call rfl ((holds_ok hO.toOffHolds rfl hone.2 hS rfl (by simp only [allOne, hnd.one]; rfl) hnd (by simp) (by rintro c hc; simp at hc; subst hc; exact ⟨_, _, rfl⟩)).mono fun v h14 ⟨hv, hE14⟩ => ?_)
    rw [show ([(V.agg [.int .i64 (.ofNat k), .int .u32 r]).cells].all (needC S)) = true by simp only [List.all_cons, List.all_nil, V.cells, needC, hn1]; rfl] at hv
    subst hv
    replace hM := hM.ext0 hE14
    replace hf7 := hf7.ext0 hE14
    replace hf8 := hf8.ext0 hE14
    replace hf9 := hf9.ext0 hE14
    replace hn9 := hn9.ext0 hE14
    replace hnd := hnd.ext0 hE14
    replace hnd2 := hnd2.ext0 hE14
    replace hnd3 := hnd3.ext0 hE14
    replace hS := hS.ext hE14
    repeat' (first
      | refine w_seq ?_
      | refine w_reg ?_
      | refine w_end (by simp only [outsV, nth, setV, List.take_succ_cons, List.take_zero, List.length_cons, List.length_nil, Nat.zero_add, Nat.reduceAdd] <;> rfl) ?_
      | refine w_off rfl ?_
      | refine w_rf rfl (by assumption) (by rfl) (by rfl) (by rfl) ?_
      | refine w_rfg rfl rfl (by assumption) (by rfl) (by rfl) (by rfl) (by rfl) ?_
      | refine w_on rfl ?_
      | refine w_len rfl (by assumption) ?_
      | refine w_lssN rfl rfl (fun hc => ?_) (fun hc => ?_)
      | refine w_leqN rfl rfl (fun hc => ?_) (fun hc => ?_)
      | refine w_gtrN rfl rfl (fun hc => ?_) (fun hc => ?_)
      | refine w_geqN rfl rfl (fun hc => ?_) (fun hc => ?_)
      | refine w_eqlN rfl rfl (fun hc => ?_) (fun hc => ?_)
      | refine w_neqN rfl rfl (fun hc => ?_) (fun hc => ?_)
      | refine w_lss rfl rfl (fun hc => ?_) (fun hc => ?_)
      | refine w_leq rfl rfl (fun hc => ?_) (fun hc => ?_)
      | refine w_gtr rfl rfl (fun hc => ?_) (fun hc => ?_)
      | refine w_geq rfl rfl (fun hc => ?_) (fun hc => ?_)
      | refine w_eql rfl rfl (fun hc => ?_) (fun hc => ?_)
      | refine w_neq rfl rfl (fun hc => ?_) (fun hc => ?_)
      | refine w_addN rfl rfl (by omega) ?_
      | refine w_opk rfl rfl ?_
      | refine w_cond_t rfl ?_
      | refine w_cond_f rfl ?_
      | refine w_skip ?_
      | refine w_exit rfl ?_
      | refine w_ret ?_
      | refine w_rt rfl ?_)
    -- Holds(m, g)
    refine w_loadA rfl (hM.at rfl) rfl ?_
    refine w_on rfl ?_
    refine w_loadA rfl (hf8.at rfl) rfl ?_
    refine w_on rfl ?_
    refine w_call rfl ((holds_ok hO.toOffHolds rfl hone.2 hS rfl (by simp only [allOne, hnd2.one]; rfl) hnd2 (by simp) (by rintro c hc; simp at hc; rcases hc with rfl | rfl <;> exact ⟨_, _, rfl⟩)).mono fun v h15 ⟨hv, hE15⟩ => ?_)
    rw [show ([[V.int .i64 (.ofNat k), .int .u32 r], [V.int .i64 (.ofNat k), .int .u32 (wrapK .u32 (Int.add r (Int.ofNat 1)))]].all (needC S)) = false by simp only [List.all_cons, List.all_nil, needC, hn1, hn2]; rfl] at hv
    subst hv
    replace hM := hM.ext0 hE15
    replace hf7 := hf7.ext0 hE15
    replace hf9 := hf9.ext0 hE15
    replace hn9 := hn9.ext0 hE15
    replace hnd := hnd.ext0 hE15
    replace hnd3 := hnd3.ext0 hE15
    replace hS := hS.ext hE15
    repeat' (first
      | refine w_seq ?_
      | refine w_reg ?_
      | refine w_end (by simp only [outsV, nth, setV, List.take_succ_cons, List.take_zero, List.length_cons, List.length_nil, Nat.zero_add, Nat.reduceAdd] <;> rfl) ?_
      | refine w_off rfl ?_
      | refine w_rf rfl (by assumption) (by rfl) (by rfl) (by rfl) ?_
      | refine w_rfg rfl rfl (by assumption) (by rfl) (by rfl) (by rfl) (by rfl) ?_
      | refine w_on rfl ?_
      | refine w_len rfl (by assumption) ?_
      | refine w_lssN rfl rfl (fun hc => ?_) (fun hc => ?_)
      | refine w_leqN rfl rfl (fun hc => ?_) (fun hc => ?_)
      | refine w_gtrN rfl rfl (fun hc => ?_) (fun hc => ?_)
      | refine w_geqN rfl rfl (fun hc => ?_) (fun hc => ?_)
      | refine w_eqlN rfl rfl (fun hc => ?_) (fun hc => ?_)
      | refine w_neqN rfl rfl (fun hc => ?_) (fun hc => ?_)
      | refine w_lss rfl rfl (fun hc => ?_) (fun hc => ?_)
      | refine w_leq rfl rfl (fun hc => ?_) (fun hc => ?_)
      | refine w_gtr rfl rfl (fun hc => ?_) (fun hc => ?_)
      | refine w_geq rfl rfl (fun hc => ?_) (fun hc => ?_)
      | refine w_eql rfl rfl (fun hc => ?_) (fun hc => ?_)
      | refine w_neq rfl rfl (fun hc => ?_) (fun hc => ?_)
      | refine w_addN rfl rfl (by omega) ?_
      | refine w_opk rfl rfl ?_
      | refine w_cond_t rfl ?_
      | refine w_cond_f rfl ?_
      | refine w_skip ?_
      | refine w_exit rfl ?_
      | refine w_ret ?_
      | refine w_rt rfl ?_)
    -- Holds(m, h)
    refine w_loadA rfl (hM.at rfl) rfl ?_
    refine w_on rfl ?_
    refine w_loadA rfl (hf9.at rfl) rfl ?_
    refine w_on rfl ?_
    refine w_call rfl ((holds_ok hO.toOffHolds rfl hone.2 hS rfl (by simp only [allOne, hnd3.one]; rfl) hnd3 (by simp) (by rintro c hc; simp at hc; subst hc; exact ⟨_, _, rfl⟩)).mono fun v h16 ⟨hv, hE16⟩ => ?_)
    rw [show ([(V.agg [.int .i64 (.ofNat lf.length), .int .u32 0]).cells].all (needC S)) = false by simp only [List.all_cons, List.all_nil, V.cells, needC, hn3]; rfl] at hv
    subst hv
    replace hM := hM.ext0 hE16
    replace hf7 := hf7.ext0 hE16
    replace hn9 := hn9.ext0 hE16
    replace hnd := hnd.ext0 hE16
    replace hS := hS.ext hE16
    repeat' (first
      | refine w_seq ?_
      | refine w_reg ?_
      | refine w_end (by simp only [outsV, nth, setV, List.take_succ_cons, List.take_zero, List.length_cons, List.length_nil, Nat.zero_add, Nat.reduceAdd] <;> rfl) ?_
      | refine w_off rfl ?_
      | refine w_rf rfl (by assumption) (by rfl) (by rfl) (by rfl) ?_
      | refine w_rfg rfl rfl (by assumption) (by rfl) (by rfl) (by rfl) (by rfl) ?_
      | refine w_on rfl ?_
      | refine w_len rfl (by assumption) ?_
      | refine w_lssN rfl rfl (fun hc => ?_) (fun hc => ?_)
      | refine w_leqN rfl rfl (fun hc => ?_) (fun hc => ?_)
      | refine w_gtrN rfl rfl (fun hc => ?_) (fun hc => ?_)
      | refine w_geqN rfl rfl (fun hc => ?_) (fun hc => ?_)
      | refine w_eqlN rfl rfl (fun hc => ?_) (fun hc => ?_)
      | refine w_neqN rfl rfl (fun hc => ?_) (fun hc => ?_)
      | refine w_lss rfl rfl (fun hc => ?_) (fun hc => ?_)
      | refine w_leq rfl rfl (fun hc => ?_) (fun hc => ?_)
      | refine w_gtr rfl rfl (fun hc => ?_) (fun hc => ?_)
      | refine w_geq rfl rfl (fun hc => ?_) (fun hc => ?_)
      | refine w_eql rfl rfl (fun hc => ?_) (fun hc => ?_)
      | refine w_neq rfl rfl (fun hc => ?_) (fun hc => ?_)
      | refine w_addN rfl rfl (by omega) ?_
      | refine w_opk rfl rfl ?_
      | refine w_cond_t rfl ?_
      | refine w_cond_f rfl ?_
      | refine w_skip ?_
      | refine w_exit rfl ?_
      | refine w_ret ?_
      | refine w_rt rfl ?_)
    -- Holds(Module{}, f)
    refine w_build [.nils, .nils, .nils, .nils] rfl (by rfl) ?_
    refine w_on rfl ?_
    refine w_loadA rfl (hf7.at rfl) rfl ?_
    refine w_on rfl ?_
    have hS1 : FnsS h16 .nils [] [] := ⟨RS.nils _ _, rfl, fun k x s hx => by simp at hx⟩
    refine w_call rfl ((holds_ok hO.toOffHolds rfl rfl hS1 rfl (by simp only [allOne, hnd.one]; rfl) hnd (by simp) (by rintro c hc; simp at hc; subst hc; exact ⟨_, _, rfl⟩)).mono fun v h17 ⟨hv, hE17⟩ => ?_)
    rw [show ([(V.agg [.int .i64 (.ofNat k), .int .u32 r]).cells].all (needC [])) = false by simp only [List.all_cons, List.all_nil, V.cells, needC, hn4]; rfl] at hv
    subst hv
    replace hM := hM.ext0 hE17
    replace hn9 := hn9.ext0 hE17
    replace hS := hS.ext hE17
    replace hS1 := hS1.ext hE17
    repeat' (first
      | refine w_seq ?_
      | refine w_reg ?_
      | refine w_end (by simp only [outsV, nth, setV, List.take_succ_cons, List.take_zero, List.length_cons, List.length_nil, Nat.zero_add, Nat.reduceAdd] <;> rfl) ?_
      | refine w_off rfl ?_
      | refine w_rf rfl (by assumption) (by rfl) (by rfl) (by rfl) ?_
      | refine w_rfg rfl rfl (by assumption) (by rfl) (by rfl) (by rfl) (by rfl) ?_
      | refine w_on rfl ?_
      | refine w_len rfl (by assumption) ?_
      | refine w_lssN rfl rfl (fun hc => ?_) (fun hc => ?_)
      | refine w_leqN rfl rfl (fun hc => ?_) (fun hc => ?_)
      | refine w_gtrN rfl rfl (fun hc => ?_) (fun hc => ?_)
      | refine w_geqN rfl rfl (fun hc => ?_) (fun hc => ?_)
      | refine w_eqlN rfl rfl (fun hc => ?_) (fun hc => ?_)
      | refine w_neqN rfl rfl (fun hc => ?_) (fun hc => ?_)
      | refine w_lss rfl rfl (fun hc => ?_) (fun hc => ?_)
      | refine w_leq rfl rfl (fun hc => ?_) (fun hc => ?_)
      | refine w_gtr rfl rfl (fun hc => ?_) (fun hc => ?_)
      | refine w_geq rfl rfl (fun hc => ?_) (fun hc => ?_)
      | refine w_eql rfl rfl (fun hc => ?_) (fun hc => ?_)
      | refine w_neq rfl rfl (fun hc => ?_) (fun hc => ?_)
      | refine w_addN rfl rfl (by omega) ?_
      | refine w_opk rfl rfl ?_
      | refine w_cond_t rfl ?_
      | refine w_cond_f rfl ?_
      | refine w_skip ?_
      | refine w_exit rfl ?_
      | refine w_ret ?_
      | refine w_rt rfl ?_)
    -- Holds(Module{}, Fast{})
    refine w_build [.nils, .nils, .nils, .nils] rfl (by rfl) ?_
    refine w_on rfl ?_
    refine w_build [.int .i64 (.ofNat 0), .int .i64 (.ofNat 0), .nils, .nils, .nils] rfl (by rfl) ?_
    refine w_on rfl ?_
    refine w_call rfl ((holds_ok hO.toOffHolds rfl rfl hS1 rfl rfl (RS.nils _ _) (by simp) (by simp)).mono fun v h18 ⟨hv, hE18⟩ => ?_)
    subst hv
    replace hM := hM.ext0 hE18
    replace hn9 := hn9.ext0 hE18
    replace hS := hS.ext hE18
    simp only [List.all_nil]
    repeat' (first
      | refine w_seq ?_
      | refine w_reg ?_
      | refine w_end (by simp only [outsV, nth, setV, List.take_succ_cons, List.take_zero, List.length_cons, List.length_nil, Nat.zero_add, Nat.reduceAdd] <;> rfl) ?_
      | refine w_off rfl ?_
      | refine w_rf rfl (by assumption) (by rfl) (by rfl) (by rfl) ?_
      | refine w_rfg rfl rfl (by assumption) (by rfl) (by rfl) (by rfl) (by rfl) ?_
      | refine w_on rfl ?_
      | refine w_len rfl (by assumption) ?_
      | refine w_lssN rfl rfl (fun hc => ?_) (fun hc => ?_)
      | refine w_leqN rfl rfl (fun hc => ?_) (fun hc => ?_)
      | refine w_gtrN rfl rfl (fun hc => ?_) (fun hc => ?_)
      | refine w_geqN rfl rfl (fun hc => ?_) (fun hc => ?_)
      | refine w_eqlN rfl rfl (fun hc => ?_) (fun hc => ?_)
      | refine w_neqN rfl rfl (fun hc => ?_) (fun hc => ?_)
      | refine w_lss rfl rfl (fun hc => ?_) (fun hc => ?_)
      | refine w_leq rfl rfl (fun hc => ?_) (fun hc => ?_)
      | refine w_gtr rfl rfl (fun hc => ?_) (fun hc => ?_)
      | refine w_geq rfl rfl (fun hc => ?_) (fun hc => ?_)
      | refine w_eql rfl rfl (fun hc => ?_) (fun hc => ?_)
      | refine w_neq rfl rfl (fun hc => ?_) (fun hc => ?_)
      | refine w_addN rfl rfl (by omega) ?_
      | refine w_opk rfl rfl ?_
      | refine w_cond_t rfl ?_
      | refine w_cond_f rfl ?_
      | refine w_skip ?_
      | refine w_exit rfl ?_
      | refine w_ret ?_
      | refine w_rt rfl ?_)
    -- Sum(n, fn)
    refine w_loadA rfl (hn9.at rfl) rfl ?_
    repeat' (first
      | refine w_seq ?_
      | refine w_reg ?_
      | refine w_end (by simp only [outsV, nth, setV, List.take_succ_cons, List.take_zero, List.length_cons, List.length_nil, Nat.zero_add, Nat.reduceAdd] <;> rfl) ?_
      | refine w_off rfl ?_
      | refine w_rf rfl (by assumption) (by rfl) (by rfl) (by rfl) ?_
      | refine w_rfg rfl rfl (by assumption) (by rfl) (by rfl) (by rfl) (by rfl) ?_
      | refine w_on rfl ?_
      | refine w_len rfl (by assumption) ?_
      | refine w_lssN rfl rfl (fun hc => ?_) (fun hc => ?_)
      | refine w_leqN rfl rfl (fun hc => ?_) (fun hc => ?_)
      | refine w_gtrN rfl rfl (fun hc => ?_) (fun hc => ?_)
      | refine w_geqN rfl rfl (fun hc => ?_) (fun hc => ?_)
      | refine w_eqlN rfl rfl (fun hc => ?_) (fun hc => ?_)
      | refine w_neqN rfl rfl (fun hc => ?_) (fun hc => ?_)
      | refine w_lss rfl rfl (fun hc => ?_) (fun hc => ?_)
      | refine w_leq rfl rfl (fun hc => ?_) (fun hc => ?_)
      | refine w_gtr rfl rfl (fun hc => ?_) (fun hc => ?_)
      | refine w_geq rfl rfl (fun hc => ?_) (fun hc => ?_)
      | refine w_eql rfl rfl (fun hc => ?_) (fun hc => ?_)
      | refine w_neq rfl rfl (fun hc => ?_) (fun hc => ?_)
      | refine w_addN rfl rfl (by omega) ?_
      | refine w_opk rfl rfl ?_
      | refine w_cond_t rfl ?_
      | refine w_cond_f rfl ?_
      | refine w_skip ?_
      | refine w_exit rfl ?_
      | refine w_ret ?_
      | refine w_rt rfl ?_)
    refine w_call rfl ((sum_any hO.toOffSum rfl (by simp only [allOne, hS.1.one]; rfl) hS).mono fun v h19 ⟨⟨r', hv, hr'⟩, hE19⟩ => ?_)
    subst hv
    have hr' : S[k]? = some r' := by
      rcases hr' with ⟨h, _⟩ | ⟨_, h⟩
      · simp at h; omega
      · exact h
    rw [hr] at hr'
    simp only [Option.some.injEq] at hr'
    subst hr'
    replace hM := hM.ext0 hE19
    replace hS := hS.ext hE19
    repeat' (first
      | refine w_seq ?_
      | refine w_reg ?_
      | refine w_end (by simp only [outsV, nth, setV, List.take_succ_cons, List.take_zero, List.length_cons, List.length_nil, Nat.zero_add, Nat.reduceAdd] <;> rfl) ?_
      | refine w_off rfl ?_
      | refine w_rf rfl (by assumption) (by rfl) (by rfl) (by rfl) ?_
      | refine w_rfg rfl rfl (by assumption) (by rfl) (by rfl) (by rfl) (by rfl) ?_
      | refine w_on rfl ?_
      | refine w_len rfl (by assumption) ?_
      | refine w_lssN rfl rfl (fun hc => ?_) (fun hc => ?_)
      | refine w_leqN rfl rfl (fun hc => ?_) (fun hc => ?_)
      | refine w_gtrN rfl rfl (fun hc => ?_) (fun hc => ?_)
      | refine w_geqN rfl rfl (fun hc => ?_) (fun hc => ?_)
      | refine w_eqlN rfl rfl (fun hc => ?_) (fun hc => ?_)
      | refine w_neqN rfl rfl (fun hc => ?_) (fun hc => ?_)
      | refine w_lss rfl rfl (fun hc => ?_) (fun hc => ?_)
      | refine w_leq rfl rfl (fun hc => ?_) (fun hc => ?_)
      | refine w_gtr rfl rfl (fun hc => ?_) (fun hc => ?_)
      | refine w_geq rfl rfl (fun hc => ?_) (fun hc => ?_)
      | refine w_eql rfl rfl (fun hc => ?_) (fun hc => ?_)
      | refine w_neq rfl rfl (fun hc => ?_) (fun hc => ?_)
      | refine w_addN rfl rfl (by omega) ?_
      | refine w_opk rfl rfl ?_
      | refine w_cond_t rfl ?_
      | refine w_cond_f rfl ?_
      | refine w_skip ?_
      | refine w_exit rfl ?_
      | refine w_ret ?_
      | refine w_rt rfl ?_)
    · refine w_loadA rfl (hM.at rfl) rfl ?_
      refine w_on rfl ?_
      refine w_call rfl ((sum_none hO.toOffSum rfl hone.2 hS.1 (n := Int.negSucc 0) (.inl (by decide))).mono fun v h20 ⟨hv, hE20⟩ => ?_)
      subst hv
      repeat' (first
        | refine w_seq ?_
        | refine w_reg ?_
        | refine w_end (by simp only [outsV, nth, setV, List.take_succ_cons, List.take_zero, List.length_cons, List.length_nil, Nat.zero_add, Nat.reduceAdd] <;> rfl) ?_
        | refine w_off rfl ?_
        | refine w_rf rfl (by assumption) (by rfl) (by rfl) (by rfl) ?_
        | refine w_rfg rfl rfl (by assumption) (by rfl) (by rfl) (by rfl) (by rfl) ?_
        | refine w_on rfl ?_
        | refine w_len rfl (by assumption) ?_
        | refine w_lssN rfl rfl (fun hc => ?_) (fun hc => ?_)
        | refine w_leqN rfl rfl (fun hc => ?_) (fun hc => ?_)
        | refine w_gtrN rfl rfl (fun hc => ?_) (fun hc => ?_)
        | refine w_geqN rfl rfl (fun hc => ?_) (fun hc => ?_)
        | refine w_eqlN rfl rfl (fun hc => ?_) (fun hc => ?_)
        | refine w_neqN rfl rfl (fun hc => ?_) (fun hc => ?_)
        | refine w_lss rfl rfl (fun hc => ?_) (fun hc => ?_)
        | refine w_leq rfl rfl (fun hc => ?_) (fun hc => ?_)
        | refine w_gtr rfl rfl (fun hc => ?_) (fun hc => ?_)
        | refine w_geq rfl rfl (fun hc => ?_) (fun hc => ?_)
        | refine w_eql rfl rfl (fun hc => ?_) (fun hc => ?_)
        | refine w_neq rfl rfl (fun hc => ?_) (fun hc => ?_)
        | refine w_addN rfl rfl (by omega) ?_
        | refine w_opk rfl rfl ?_
        | refine w_cond_t rfl ?_
        | refine w_cond_f rfl ?_
        | refine w_skip ?_
        | refine w_exit rfl ?_
        | refine w_ret ?_
        | refine w_rt rfl ?_)
      · refine w_aw hO ?_
        repeat' (first
          | refine w_seq ?_
          | refine w_reg ?_
          | refine w_end (by simp only [outsV, nth, setV, List.take_succ_cons, List.take_zero, List.length_cons, List.length_nil, Nat.zero_add, Nat.reduceAdd] <;> rfl) ?_
          | refine w_off rfl ?_
          | refine w_rf rfl (by assumption) (by rfl) (by rfl) (by rfl) ?_
          | refine w_rfg rfl rfl (by assumption) (by rfl) (by rfl) (by rfl) (by rfl) ?_
          | refine w_on rfl ?_
          | refine w_len rfl (by assumption) ?_
          | refine w_lssN rfl rfl (fun hc => ?_) (fun hc => ?_)
          | refine w_leqN rfl rfl (fun hc => ?_) (fun hc => ?_)
          | refine w_gtrN rfl rfl (fun hc => ?_) (fun hc => ?_)
          | refine w_geqN rfl rfl (fun hc => ?_) (fun hc => ?_)
          | refine w_eqlN rfl rfl (fun hc => ?_) (fun hc => ?_)
          | refine w_neqN rfl rfl (fun hc => ?_) (fun hc => ?_)
          | refine w_lss rfl rfl (fun hc => ?_) (fun hc => ?_)
          | refine w_leq rfl rfl (fun hc => ?_) (fun hc => ?_)
          | refine w_gtr rfl rfl (fun hc => ?_) (fun hc => ?_)
          | refine w_geq rfl rfl (fun hc => ?_) (fun hc => ?_)
          | refine w_eql rfl rfl (fun hc => ?_) (fun hc => ?_)
          | refine w_neq rfl rfl (fun hc => ?_) (fun hc => ?_)
          | refine w_addN rfl rfl (by omega) ?_
          | refine w_opk rfl rfl ?_
          | refine w_cond_t rfl ?_
          | refine w_cond_f rfl ?_
          | refine w_skip ?_
          | refine w_exit rfl ?_
          | refine w_ret ?_
          | refine w_rt rfl ?_)
        rfl
      · exact absurd rfl hc
    · exact absurd rfl hc
end AmT
