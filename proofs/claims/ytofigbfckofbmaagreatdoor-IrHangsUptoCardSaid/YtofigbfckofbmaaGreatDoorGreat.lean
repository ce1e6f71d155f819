/-
  droverlaw11.Great answers, at any module. Conditions: the module is one, by its cells.
-/
import Derived.Test.YtofigbfckofbmaaGreatDoorW
namespace AmT
open Go Am
set_option maxRecDepth 100000
set_option linter.unusedSimpArgs false
set_option linter.unusedVariables false
set_option maxHeartbeats 2000000
variable {O : CallF}

theorem great_ok (hO : ∀ a h, O 9 a h = none) {h0 : Heap} {c : List V} (hm : ModC h0 c) : WPc tab.get O 9 [.agg c] h0 (fun v h' => (∃ b, v = .bool b) ∧ Ext h0 h') := by
  refine w_fn' (hO _ _) rfl rfl (by simp only [c9, initV, nth] <;> rfl) ?_
  have hone := hm.one
  obtain ⟨cs, ts, fs, rs, lc, lt, lf, lr, rfl, hcs, hts, hfs, hrs, hf, hr, bf, br⟩ := hm
  refine w_seq (w_reg (w_box rfl rfl hone.2 fun id h1 ho hn hE => ?_))
  replace hcs := hcs.ext0 hE
  replace hts := hts.ext0 hE
  replace hfs := hfs.ext0 hE
  replace hrs := hrs.ext0 hE
  replace hf := fun f hf' => (hf f hf').ext hE
  replace hr := fun f hf' => (hr f hf').ext hE
  repeat' (first
    | refine w_seq ?_
    | refine w_reg ?_
    | refine w_end (by simp only [outsV, nth, setV, List.take_succ_cons, List.take_zero, List.length_cons, List.length_nil, Nat.zero_add, Nat.reduceAdd] <;> rfl) ?_
    | refine w_off rfl ?_
    | refine w_rf rfl (by assumption) (by rfl) (by rfl) (by rfl) ?_
    | refine w_rfg rfl rfl (by assumption) (by rfl) (by rfl) (by rfl) (by rfl) ?_
    | refine w_on rfl ?_
    | refine w_len rfl (by assumption) ?_
    | refine w_lssN rfl rfl (fun hc => ?_) (fun hc => ?_)
    | refine w_leqN rfl rfl (fun hc => ?_) (fun hc => ?_)
    | refine w_gtrN rfl rfl (fun hc => ?_) (fun hc => ?_)
    | refine w_geqN rfl rfl (fun hc => ?_) (fun hc => ?_)
    | refine w_eqlN rfl rfl (fun hc => ?_) (fun hc => ?_)
    | refine w_neqN rfl rfl (fun hc => ?_) (fun hc => ?_)
    | refine w_lss rfl rfl (fun hc => ?_) (fun hc => ?_)
    | refine w_leq rfl rfl (fun hc => ?_) (fun hc => ?_)
    | refine w_gtr rfl rfl (fun hc => ?_) (fun hc => ?_)
    | refine w_geq rfl rfl (fun hc => ?_) (fun hc => ?_)
    | refine w_eql rfl rfl (fun hc => ?_) (fun hc => ?_)
    | refine w_neq rfl rfl (fun hc => ?_) (fun hc => ?_)
    | refine w_addN rfl rfl (by omega) ?_
    | refine w_opk rfl rfl ?_
    | refine w_cond_t rfl ?_
    | refine w_cond_f rfl ?_
    | refine w_skip ?_
    | refine w_exit rfl ?_
    | refine w_ret ?_
    | refine w_rt rfl ?_)
  refine w_count (fun j vs h => h1 = h ∧ ∃ b n w, vs = [.agg [cs, ts, fs, rs], .bool false, .ptr id 0 0 4, .int .i64 (.ofNat j), .int .i64 (.ofNat lf.length), b, .int .i64 n, w, .any, .any, .any, .any]) lf.length ⟨rfl, _, _, _, rfl⟩ ?_
  rintro j vs h hj ⟨rfl, b, n, w, rfl⟩
  repeat' (first
    | refine w_seq ?_
    | refine w_reg ?_
    | refine w_end (by simp only [outsV, nth, setV, List.take_succ_cons, List.take_zero, List.length_cons, List.length_nil, Nat.zero_add, Nat.reduceAdd] <;> rfl) ?_
    | refine w_off rfl ?_
    | refine w_rf rfl (by assumption) (by rfl) (by rfl) (by rfl) ?_
    | refine w_rfg rfl rfl (by assumption) (by rfl) (by rfl) (by rfl) (by rfl) ?_
    | refine w_on rfl ?_
    | refine w_len rfl (by assumption) ?_
    | refine w_lssN rfl rfl (fun hc => ?_) (fun hc => ?_)
    | refine w_leqN rfl rfl (fun hc => ?_) (fun hc => ?_)
    | refine w_gtrN rfl rfl (fun hc => ?_) (fun hc => ?_)
    | refine w_geqN rfl rfl (fun hc => ?_) (fun hc => ?_)
    | refine w_eqlN rfl rfl (fun hc => ?_) (fun hc => ?_)
    | refine w_neqN rfl rfl (fun hc => ?_) (fun hc => ?_)
    | refine w_lss rfl rfl (fun hc => ?_) (fun hc => ?_)
    | refine w_leq rfl rfl (fun hc => ?_) (fun hc => ?_)
    | refine w_gtr rfl rfl (fun hc => ?_) (fun hc => ?_)
    | refine w_geq rfl rfl (fun hc => ?_) (fun hc => ?_)
    | refine w_eql rfl rfl (fun hc => ?_) (fun hc => ?_)
    | refine w_neq rfl rfl (fun hc => ?_) (fun hc => ?_)
    | refine w_addN rfl rfl (by omega) ?_
    | refine w_opk rfl rfl ?_
    | refine w_cond_t rfl ?_
    | refine w_cond_f rfl ?_
    | refine w_skip ?_
    | refine w_exit rfl ?_
    | refine w_ret ?_
    | refine w_rt rfl ?_)
  · refine w_block ?_
    repeat' (first
      | refine w_seq ?_
      | refine w_reg ?_
      | refine w_end (by simp only [outsV, nth, setV, List.take_succ_cons, List.take_zero, List.length_cons, List.length_nil, Nat.zero_add, Nat.reduceAdd] <;> rfl) ?_
      | refine w_off rfl ?_
      | refine w_rf rfl (by assumption) (by rfl) (by rfl) (by rfl) ?_
      | refine w_rfg rfl rfl (by assumption) (by rfl) (by rfl) (by rfl) (by rfl) ?_
      | refine w_on rfl ?_
      | refine w_len rfl (by assumption) ?_
      | refine w_lssN rfl rfl (fun hc => ?_) (fun hc => ?_)
      | refine w_leqN rfl rfl (fun hc => ?_) (fun hc => ?_)
      | refine w_gtrN rfl rfl (fun hc => ?_) (fun hc => ?_)
      | refine w_geqN rfl rfl (fun hc => ?_) (fun hc => ?_)
      | refine w_eqlN rfl rfl (fun hc => ?_) (fun hc => ?_)
      | refine w_neqN rfl rfl (fun hc => ?_) (fun hc => ?_)
      | refine w_lss rfl rfl (fun hc => ?_) (fun hc => ?_)
      | refine w_leq rfl rfl (fun hc => ?_) (fun hc => ?_)
      | refine w_gtr rfl rfl (fun hc => ?_) (fun hc => ?_)
      | refine w_geq rfl rfl (fun hc => ?_) (fun hc => ?_)
      | refine w_eql rfl rfl (fun hc => ?_) (fun hc => ?_)
      | refine w_neq rfl rfl (fun hc => ?_) (fun hc => ?_)
      | refine w_addN rfl rfl (by omega) ?_
      | refine w_opk rfl rfl ?_
      | refine w_cond_t rfl ?_
      | refine w_cond_f rfl ?_
      | refine w_skip ?_
      | refine w_exit rfl ?_
      | refine w_ret ?_
      | refine w_rt rfl ?_)
    refine w_iadr rfl rfl hfs (by assumption) fun p hp => ?_
    obtain ⟨nm, pp, vv, code, l, e1, e2, -, -⟩ := hf _ (List.getElem_mem (by assumption))
    rw [e1] at hp
    refine w_fadr rfl hp rfl fun hp2 => ?_
    refine w_load1 rfl hp2 rfl ?_
    repeat' (first
      | refine w_seq ?_
      | refine w_reg ?_
      | refine w_end (by simp only [outsV, nth, setV, List.take_succ_cons, List.take_zero, List.length_cons, List.length_nil, Nat.zero_add, Nat.reduceAdd] <;> rfl) ?_
      | refine w_off rfl ?_
      | refine w_rf rfl (by assumption) (by rfl) (by rfl) (by rfl) ?_
      | refine w_rfg rfl rfl (by assumption) (by rfl) (by rfl) (by rfl) (by rfl) ?_
      | refine w_on rfl ?_
      | refine w_len rfl (by assumption) ?_
      | refine w_lssN rfl rfl (fun hc => ?_) (fun hc => ?_)
      | refine w_leqN rfl rfl (fun hc => ?_) (fun hc => ?_)
      | refine w_gtrN rfl rfl (fun hc => ?_) (fun hc => ?_)
      | refine w_geqN rfl rfl (fun hc => ?_) (fun hc => ?_)
      | refine w_eqlN rfl rfl (fun hc => ?_) (fun hc => ?_)
      | refine w_neqN rfl rfl (fun hc => ?_) (fun hc => ?_)
      | refine w_lss rfl rfl (fun hc => ?_) (fun hc => ?_)
      | refine w_leq rfl rfl (fun hc => ?_) (fun hc => ?_)
      | refine w_gtr rfl rfl (fun hc => ?_) (fun hc => ?_)
      | refine w_geq rfl rfl (fun hc => ?_) (fun hc => ?_)
      | refine w_eql rfl rfl (fun hc => ?_) (fun hc => ?_)
      | refine w_neq rfl rfl (fun hc => ?_) (fun hc => ?_)
      | refine w_addN rfl rfl (by omega) ?_
      | refine w_opk rfl rfl ?_
      | refine w_cond_t rfl ?_
      | refine w_cond_f rfl ?_
      | refine w_skip ?_
      | refine w_exit rfl ?_
      | refine w_ret ?_
      | refine w_rt rfl ?_)
    exact ⟨by assumption, rfl, _, _, _, rfl⟩
  refine w_count (fun j vs h => h1 = h ∧ ∃ a b n w u x y, vs = [.agg [cs, ts, fs, rs], .bool false, .ptr id 0 0 4, a, b, u, .int .i64 n, w, .int .i64 (.ofNat j), .int .i64 (.ofNat lr.length), x, y]) lr.length ⟨rfl, _, _, _, _, _, _, _, rfl⟩ ?_
  rintro j vs h hj ⟨rfl, a, b, n, w, u, x, y, rfl⟩
  repeat' (first
    | refine w_seq ?_
    | refine w_reg ?_
    | refine w_end (by simp only [outsV, nth, setV, List.take_succ_cons, List.take_zero, List.length_cons, List.length_nil, Nat.zero_add, Nat.reduceAdd] <;> rfl) ?_
    | refine w_off rfl ?_
    | refine w_rf rfl (by assumption) (by rfl) (by rfl) (by rfl) ?_
    | refine w_rfg rfl rfl (by assumption) (by rfl) (by rfl) (by rfl) (by rfl) ?_
    | refine w_on rfl ?_
    | refine w_len rfl (by assumption) ?_
    | refine w_lssN rfl rfl (fun hc => ?_) (fun hc => ?_)
    | refine w_leqN rfl rfl (fun hc => ?_) (fun hc => ?_)
    | refine w_gtrN rfl rfl (fun hc => ?_) (fun hc => ?_)
    | refine w_geqN rfl rfl (fun hc => ?_) (fun hc => ?_)
    | refine w_eqlN rfl rfl (fun hc => ?_) (fun hc => ?_)
    | refine w_neqN rfl rfl (fun hc => ?_) (fun hc => ?_)
    | refine w_lss rfl rfl (fun hc => ?_) (fun hc => ?_)
    | refine w_leq rfl rfl (fun hc => ?_) (fun hc => ?_)
    | refine w_gtr rfl rfl (fun hc => ?_) (fun hc => ?_)
    | refine w_geq rfl rfl (fun hc => ?_) (fun hc => ?_)
    | refine w_eql rfl rfl (fun hc => ?_) (fun hc => ?_)
    | refine w_neq rfl rfl (fun hc => ?_) (fun hc => ?_)
    | refine w_addN rfl rfl (by omega) ?_
    | refine w_opk rfl rfl ?_
    | refine w_cond_t rfl ?_
    | refine w_cond_f rfl ?_
    | refine w_skip ?_
    | refine w_exit rfl ?_
    | refine w_ret ?_
    | refine w_rt rfl ?_)
  · refine w_block ?_
    repeat' (first
      | refine w_seq ?_
      | refine w_reg ?_
      | refine w_end (by simp only [outsV, nth, setV, List.take_succ_cons, List.take_zero, List.length_cons, List.length_nil, Nat.zero_add, Nat.reduceAdd] <;> rfl) ?_
      | refine w_off rfl ?_
      | refine w_rf rfl (by assumption) (by rfl) (by rfl) (by rfl) ?_
      | refine w_rfg rfl rfl (by assumption) (by rfl) (by rfl) (by rfl) (by rfl) ?_
      | refine w_on rfl ?_
      | refine w_len rfl (by assumption) ?_
      | refine w_lssN rfl rfl (fun hc => ?_) (fun hc => ?_)
      | refine w_leqN rfl rfl (fun hc => ?_) (fun hc => ?_)
      | refine w_gtrN rfl rfl (fun hc => ?_) (fun hc => ?_)
      | refine w_geqN rfl rfl (fun hc => ?_) (fun hc => ?_)
      | refine w_eqlN rfl rfl (fun hc => ?_) (fun hc => ?_)
      | refine w_neqN rfl rfl (fun hc => ?_) (fun hc => ?_)
      | refine w_lss rfl rfl (fun hc => ?_) (fun hc => ?_)
      | refine w_leq rfl rfl (fun hc => ?_) (fun hc => ?_)
      | refine w_gtr rfl rfl (fun hc => ?_) (fun hc => ?_)
      | refine w_geq rfl rfl (fun hc => ?_) (fun hc => ?_)
      | refine w_eql rfl rfl (fun hc => ?_) (fun hc => ?_)
      | refine w_neq rfl rfl (fun hc => ?_) (fun hc => ?_)
      | refine w_addN rfl rfl (by omega) ?_
      | refine w_opk rfl rfl ?_
      | refine w_cond_t rfl ?_
      | refine w_cond_f rfl ?_
      | refine w_skip ?_
      | refine w_exit rfl ?_
      | refine w_ret ?_
      | refine w_rt rfl ?_)
    refine w_iadr rfl rfl hrs (by assumption) fun p hp => ?_
    obtain ⟨nm, pp, code, l, e1, e2, -, -⟩ := hr _ (List.getElem_mem (by assumption))
    rw [e1] at hp
    refine w_fadr rfl hp rfl fun hp2 => ?_
    refine w_load1 rfl hp2 rfl ?_
    repeat' (first
      | refine w_seq ?_
      | refine w_reg ?_
      | refine w_end (by simp only [outsV, nth, setV, List.take_succ_cons, List.take_zero, List.length_cons, List.length_nil, Nat.zero_add, Nat.reduceAdd] <;> rfl) ?_
      | refine w_off rfl ?_
      | refine w_rf rfl (by assumption) (by rfl) (by rfl) (by rfl) ?_
      | refine w_rfg rfl rfl (by assumption) (by rfl) (by rfl) (by rfl) (by rfl) ?_
      | refine w_on rfl ?_
      | refine w_len rfl (by assumption) ?_
      | refine w_lssN rfl rfl (fun hc => ?_) (fun hc => ?_)
      | refine w_leqN rfl rfl (fun hc => ?_) (fun hc => ?_)
      | refine w_gtrN rfl rfl (fun hc => ?_) (fun hc => ?_)
      | refine w_geqN rfl rfl (fun hc => ?_) (fun hc => ?_)
      | refine w_eqlN rfl rfl (fun hc => ?_) (fun hc => ?_)
      | refine w_neqN rfl rfl (fun hc => ?_) (fun hc => ?_)
      | refine w_lss rfl rfl (fun hc => ?_) (fun hc => ?_)
      | refine w_leq rfl rfl (fun hc => ?_) (fun hc => ?_)
      | refine w_gtr rfl rfl (fun hc => ?_) (fun hc => ?_)
      | refine w_geq rfl rfl (fun hc => ?_) (fun hc => ?_)
      | refine w_eql rfl rfl (fun hc => ?_) (fun hc => ?_)
      | refine w_neq rfl rfl (fun hc => ?_) (fun hc => ?_)
      | refine w_addN rfl rfl (by omega) ?_
      | refine w_opk rfl rfl ?_
      | refine w_cond_t rfl ?_
      | refine w_cond_f rfl ?_
      | refine w_skip ?_
      | refine w_exit rfl ?_
      | refine w_ret ?_
      | refine w_rt rfl ?_)
    exact ⟨by assumption, rfl, _, _, _, _, _, _, _, rfl⟩
  · exact ⟨⟨_, rfl⟩, hE⟩
  · exact ⟨⟨_, rfl⟩, hE⟩
end AmT
