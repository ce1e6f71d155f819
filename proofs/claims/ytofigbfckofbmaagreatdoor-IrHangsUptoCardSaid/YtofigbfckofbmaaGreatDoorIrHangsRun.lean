/-
  IrHangs answers true at any two modules. Conditions: they are modules, by their cells.
-/
import Derived.Test.YtofigbfckofbmaaGreatDoorPick
namespace AmT
open Go Am
set_option maxRecDepth 100000
set_option maxHeartbeats 4000000
set_option linter.unusedSimpArgs false
set_option linter.unusedVariables false
variable {O : CallF}

theorem irHangs_ok (hO : Off14 O) {h0 : Heap} {c d : List V} {n : Int} (hm : ModC h0 c) (hd : ModC h0 d) :
    WPc tab.get O 4 [.agg c, .agg d, .int .i64 n] h0 (fun v h' => v = .bool true) := by
  refine w_fn' (hO.l2 _ _) rfl rfl (by simp only [c4, initV, nth] <;> rfl) ?_
  have hone := hm.one
  have hone2 := hd.one
  have hm0 := hm
  have hd0 := hd
  obtain ⟨cs, ts, fs, rs, lc, lt, lf, lr, rfl, hcs, hts, hfs0, hrs, hf, hr, bf, br⟩ := hm
  obtain ⟨ds, us, gs, ps, ld, lu, lg, lp, rfl, hds, hus, hgs0, hps, hg, hp, bg, bp⟩ := hd
  obtain ⟨S, hS0⟩ := fnsS_of hfs0 hf
  have hfsl := hfs0.lt
  have hgsl := hgs0.lt
  refine w_seq (w_reg (w_box rfl rfl hone.2 fun im h1 hM him hE => ?_))
  refine w_box rfl rfl hone2.2 fun io h2 hD hio hE2 => ?_
  have E2 := hE.trans hE2
  replace hM := hM.ext0 hE2
  have himl := hM.1
  have hiol := hD.1
  repeat' (first
    | refine w_seq ?_
    | refine w_reg ?_
    | refine w_end (by simp only [outsV, nth, setV, List.take_succ_cons, List.take_zero, List.length_cons, List.length_nil, Nat.zero_add, Nat.reduceAdd] <;> rfl) ?_
    | refine w_off rfl ?_
    | refine w_rf rfl (by assumption) (by rfl) (by rfl) (by rfl) ?_
    | refine w_rfg rfl rfl (by assumption) (by rfl) (by rfl) (by rfl) (by rfl) ?_
    | refine w_on rfl ?_
    | refine w_len rfl (by assumption) ?_
    | refine w_lssN rfl rfl (fun hc => ?_) (fun hc => ?_)
    | refine w_leqN rfl rfl (fun hc => ?_) (fun hc => ?_)
    | refine w_gtrN rfl rfl (fun hc => ?_) (fun hc => ?_)
    | refine w_geqN rfl rfl (fun hc => ?_) (fun hc => ?_)
    | refine w_eqlN rfl rfl (fun hc => ?_) (fun hc => ?_)
    | refine w_neqN rfl rfl (fun hc => ?_) (fun hc => ?_)
    | refine w_lss rfl rfl (fun hc => ?_) (fun hc => ?_)
    | refine w_leq rfl rfl (fun hc => ?_) (fun hc => ?_)
    | refine w_gtr rfl rfl (fun hc => ?_) (fun hc => ?_)
    | refine w_geq rfl rfl (fun hc => ?_) (fun hc => ?_)
    | refine w_eql rfl rfl (fun hc => ?_) (fun hc => ?_)
    | refine w_neq rfl rfl (fun hc => ?_) (fun hc => ?_)
    | refine w_addN rfl rfl (by omega) ?_
    | refine w_opk rfl rfl ?_
    | refine w_cond_t rfl ?_
    | refine w_cond_f rfl ?_
    | refine w_skip ?_
    | refine w_exit rfl ?_
    | refine w_ret ?_
    | refine w_rt rfl ?_)
  refine w_loadA rfl (hM.at rfl) rfl ?_
  refine w_call rfl ((great_ok hO.gr (hm0.ext E2)).mono fun v h3 ⟨⟨b, hv⟩, hE3⟩ => ?_)
  subst hv
  replace hM := hM.ext0 hE3
  replace hD := hD.ext0 hE3
  have E3 := E2.trans hE3
  cases b with
  | true =>
    repeat' (first
      | refine w_seq ?_
      | refine w_reg ?_
      | refine w_end (by simp only [outsV, nth, setV, List.take_succ_cons, List.take_zero, List.length_cons, List.length_nil, Nat.zero_add, Nat.reduceAdd] <;> rfl) ?_
      | refine w_off rfl ?_
      | refine w_rf rfl (by assumption) (by rfl) (by rfl) (by rfl) ?_
      | refine w_rfg rfl rfl (by assumption) (by rfl) (by rfl) (by rfl) (by rfl) ?_
      | refine w_on rfl ?_
      | refine w_len rfl (by assumption) ?_
      | refine w_lssN rfl rfl (fun hc => ?_) (fun hc => ?_)
      | refine w_leqN rfl rfl (fun hc => ?_) (fun hc => ?_)
      | refine w_gtrN rfl rfl (fun hc => ?_) (fun hc => ?_)
      | refine w_geqN rfl rfl (fun hc => ?_) (fun hc => ?_)
      | refine w_eqlN rfl rfl (fun hc => ?_) (fun hc => ?_)
      | refine w_neqN rfl rfl (fun hc => ?_) (fun hc => ?_)
      | refine w_lss rfl rfl (fun hc => ?_) (fun hc => ?_)
      | refine w_leq rfl rfl (fun hc => ?_) (fun hc => ?_)
      | refine w_gtr rfl rfl (fun hc => ?_) (fun hc => ?_)
      | refine w_geq rfl rfl (fun hc => ?_) (fun hc => ?_)
      | refine w_eql rfl rfl (fun hc => ?_) (fun hc => ?_)
      | refine w_neq rfl rfl (fun hc => ?_) (fun hc => ?_)
      | refine w_addN rfl rfl (by omega) ?_
      | refine w_opk rfl rfl ?_
      | refine w_cond_t rfl ?_
      | refine w_cond_f rfl ?_
      | refine w_skip ?_
      | refine w_exit rfl ?_
      | refine w_ret ?_
      | refine w_rt rfl ?_)
    refine w_aw hO ?_
    repeat' (first
      | refine w_seq ?_
      | refine w_reg ?_
      | refine w_end (by simp only [outsV, nth, setV, List.take_succ_cons, List.take_zero, List.length_cons, List.length_nil, Nat.zero_add, Nat.reduceAdd] <;> rfl) ?_
      | refine w_off rfl ?_
      | refine w_rf rfl (by assumption) (by rfl) (by rfl) (by rfl) ?_
      | refine w_rfg rfl rfl (by assumption) (by rfl) (by rfl) (by rfl) (by rfl) ?_
      | refine w_on rfl ?_
      | refine w_len rfl (by assumption) ?_
      | refine w_lssN rfl rfl (fun hc => ?_) (fun hc => ?_)
      | refine w_leqN rfl rfl (fun hc => ?_) (fun hc => ?_)
      | refine w_gtrN rfl rfl (fun hc => ?_) (fun hc => ?_)
      | refine w_geqN rfl rfl (fun hc => ?_) (fun hc => ?_)
      | refine w_eqlN rfl rfl (fun hc => ?_) (fun hc => ?_)
      | refine w_neqN rfl rfl (fun hc => ?_) (fun hc => ?_)
      | refine w_lss rfl rfl (fun hc => ?_) (fun hc => ?_)
      | refine w_leq rfl rfl (fun hc => ?_) (fun hc => ?_)
      | refine w_gtr rfl rfl (fun hc => ?_) (fun hc => ?_)
      | refine w_geq rfl rfl (fun hc => ?_) (fun hc => ?_)
      | refine w_eql rfl rfl (fun hc => ?_) (fun hc => ?_)
      | refine w_neq rfl rfl (fun hc => ?_) (fun hc => ?_)
      | refine w_addN rfl rfl (by omega) ?_
      | refine w_opk rfl rfl ?_
      | refine w_cond_t rfl ?_
      | refine w_cond_f rfl ?_
      | refine w_skip ?_
      | refine w_exit rfl ?_
      | refine w_ret ?_
      | refine w_rt rfl ?_)
    rfl
  | false =>
  repeat' (first
    | refine w_seq ?_
    | refine w_reg ?_
    | refine w_end (by simp only [outsV, nth, setV, List.take_succ_cons, List.take_zero, List.length_cons, List.length_nil, Nat.zero_add, Nat.reduceAdd] <;> rfl) ?_
    | refine w_off rfl ?_
    | refine w_rf rfl (by assumption) (by rfl) (by rfl) (by rfl) ?_
    | refine w_rfg rfl rfl (by assumption) (by rfl) (by rfl) (by rfl) (by rfl) ?_
    | refine w_on rfl ?_
    | refine w_len rfl (by assumption) ?_
    | refine w_lssN rfl rfl (fun hc => ?_) (fun hc => ?_)
    | refine w_leqN rfl rfl (fun hc => ?_) (fun hc => ?_)
    | refine w_gtrN rfl rfl (fun hc => ?_) (fun hc => ?_)
    | refine w_geqN rfl rfl (fun hc => ?_) (fun hc => ?_)
    | refine w_eqlN rfl rfl (fun hc => ?_) (fun hc => ?_)
    | refine w_neqN rfl rfl (fun hc => ?_) (fun hc => ?_)
    | refine w_lss rfl rfl (fun hc => ?_) (fun hc => ?_)
    | refine w_leq rfl rfl (fun hc => ?_) (fun hc => ?_)
    | refine w_gtr rfl rfl (fun hc => ?_) (fun hc => ?_)
    | refine w_geq rfl rfl (fun hc => ?_) (fun hc => ?_)
    | refine w_eql rfl rfl (fun hc => ?_) (fun hc => ?_)
    | refine w_neq rfl rfl (fun hc => ?_) (fun hc => ?_)
    | refine w_addN rfl rfl (by omega) ?_
    | refine w_opk rfl rfl ?_
    | refine w_cond_t rfl ?_
    | refine w_cond_f rfl ?_
    | refine w_skip ?_
    | refine w_exit rfl ?_
    | refine w_ret ?_
    | refine w_rt rfl ?_)
  refine w_loadA rfl (hD.at rfl) rfl ?_
  refine w_on rfl ?_
  refine w_call rfl ((great_ok hO.gr (hd0.ext E3)).mono fun v h4 ⟨⟨b, hv⟩, hE4⟩ => ?_)
  subst hv
  replace hM := hM.ext0 hE4
  replace hD := hD.ext0 hE4
  have E4 := E3.trans hE4
  have hS := hS0.ext E4
  have hfs := hS.1
  cases b with
  | true =>
    repeat' (first
      | refine w_seq ?_
      | refine w_reg ?_
      | refine w_end (by simp only [outsV, nth, setV, List.take_succ_cons, List.take_zero, List.length_cons, List.length_nil, Nat.zero_add, Nat.reduceAdd] <;> rfl) ?_
      | refine w_off rfl ?_
      | refine w_rf rfl (by assumption) (by rfl) (by rfl) (by rfl) ?_
      | refine w_rfg rfl rfl (by assumption) (by rfl) (by rfl) (by rfl) (by rfl) ?_
      | refine w_on rfl ?_
      | refine w_len rfl (by assumption) ?_
      | refine w_lssN rfl rfl (fun hc => ?_) (fun hc => ?_)
      | refine w_leqN rfl rfl (fun hc => ?_) (fun hc => ?_)
      | refine w_gtrN rfl rfl (fun hc => ?_) (fun hc => ?_)
      | refine w_geqN rfl rfl (fun hc => ?_) (fun hc => ?_)
      | refine w_eqlN rfl rfl (fun hc => ?_) (fun hc => ?_)
      | refine w_neqN rfl rfl (fun hc => ?_) (fun hc => ?_)
      | refine w_lss rfl rfl (fun hc => ?_) (fun hc => ?_)
      | refine w_leq rfl rfl (fun hc => ?_) (fun hc => ?_)
      | refine w_gtr rfl rfl (fun hc => ?_) (fun hc => ?_)
      | refine w_geq rfl rfl (fun hc => ?_) (fun hc => ?_)
      | refine w_eql rfl rfl (fun hc => ?_) (fun hc => ?_)
      | refine w_neq rfl rfl (fun hc => ?_) (fun hc => ?_)
      | refine w_addN rfl rfl (by omega) ?_
      | refine w_opk rfl rfl ?_
      | refine w_cond_t rfl ?_
      | refine w_cond_f rfl ?_
      | refine w_skip ?_
      | refine w_exit rfl ?_
      | refine w_ret ?_
      | refine w_rt rfl ?_)
    refine w_aw hO ?_
    repeat' (first
      | refine w_seq ?_
      | refine w_reg ?_
      | refine w_end (by simp only [outsV, nth, setV, List.take_succ_cons, List.take_zero, List.length_cons, List.length_nil, Nat.zero_add, Nat.reduceAdd] <;> rfl) ?_
      | refine w_off rfl ?_
      | refine w_rf rfl (by assumption) (by rfl) (by rfl) (by rfl) ?_
      | refine w_rfg rfl rfl (by assumption) (by rfl) (by rfl) (by rfl) (by rfl) ?_
      | refine w_on rfl ?_
      | refine w_len rfl (by assumption) ?_
      | refine w_lssN rfl rfl (fun hc => ?_) (fun hc => ?_)
      | refine w_leqN rfl rfl (fun hc => ?_) (fun hc => ?_)
      | refine w_gtrN rfl rfl (fun hc => ?_) (fun hc => ?_)
      | refine w_geqN rfl rfl (fun hc => ?_) (fun hc => ?_)
      | refine w_eqlN rfl rfl (fun hc => ?_) (fun hc => ?_)
      | refine w_neqN rfl rfl (fun hc => ?_) (fun hc => ?_)
      | refine w_lss rfl rfl (fun hc => ?_) (fun hc => ?_)
      | refine w_leq rfl rfl (fun hc => ?_) (fun hc => ?_)
      | refine w_gtr rfl rfl (fun hc => ?_) (fun hc => ?_)
      | refine w_geq rfl rfl (fun hc => ?_) (fun hc => ?_)
      | refine w_eql rfl rfl (fun hc => ?_) (fun hc => ?_)
      | refine w_neq rfl rfl (fun hc => ?_) (fun hc => ?_)
      | refine w_addN rfl rfl (by omega) ?_
      | refine w_opk rfl rfl ?_
      | refine w_cond_t rfl ?_
      | refine w_cond_f rfl ?_
      | refine w_skip ?_
      | refine w_exit rfl ?_
      | refine w_ret ?_
      | refine w_rt rfl ?_)
    rfl
  | false =>
  repeat' (first
    | refine w_seq ?_
    | refine w_reg ?_
    | refine w_end (by simp only [outsV, nth, setV, List.take_succ_cons, List.take_zero, List.length_cons, List.length_nil, Nat.zero_add, Nat.reduceAdd] <;> rfl) ?_
    | refine w_off rfl ?_
    | refine w_rf rfl (by assumption) (by rfl) (by rfl) (by rfl) ?_
    | refine w_rfg rfl rfl (by assumption) (by rfl) (by rfl) (by rfl) (by rfl) ?_
    | refine w_on rfl ?_
    | refine w_len rfl (by assumption) ?_
    | refine w_lssN rfl rfl (fun hc => ?_) (fun hc => ?_)
    | refine w_leqN rfl rfl (fun hc => ?_) (fun hc => ?_)
    | refine w_gtrN rfl rfl (fun hc => ?_) (fun hc => ?_)
    | refine w_geqN rfl rfl (fun hc => ?_) (fun hc => ?_)
    | refine w_eqlN rfl rfl (fun hc => ?_) (fun hc => ?_)
    | refine w_neqN rfl rfl (fun hc => ?_) (fun hc => ?_)
    | refine w_lss rfl rfl (fun hc => ?_) (fun hc => ?_)
    | refine w_leq rfl rfl (fun hc => ?_) (fun hc => ?_)
    | refine w_gtr rfl rfl (fun hc => ?_) (fun hc => ?_)
    | refine w_geq rfl rfl (fun hc => ?_) (fun hc => ?_)
    | refine w_eql rfl rfl (fun hc => ?_) (fun hc => ?_)
    | refine w_neq rfl rfl (fun hc => ?_) (fun hc => ?_)
    | refine w_addN rfl rfl (by omega) ?_
    | refine w_opk rfl rfl ?_
    | refine w_cond_t rfl ?_
    | refine w_cond_f rfl ?_
    | refine w_skip ?_
    | refine w_exit rfl ?_
    | refine w_ret ?_
    | refine w_rt rfl ?_)
  · refine w_aw hO ?_
    repeat' (first
      | refine w_seq ?_
      | refine w_reg ?_
      | refine w_end (by simp only [outsV, nth, setV, List.take_succ_cons, List.take_zero, List.length_cons, List.length_nil, Nat.zero_add, Nat.reduceAdd] <;> rfl) ?_
      | refine w_off rfl ?_
      | refine w_rf rfl (by assumption) (by rfl) (by rfl) (by rfl) ?_
      | refine w_rfg rfl rfl (by assumption) (by rfl) (by rfl) (by rfl) (by rfl) ?_
      | refine w_on rfl ?_
      | refine w_len rfl (by assumption) ?_
      | refine w_lssN rfl rfl (fun hc => ?_) (fun hc => ?_)
      | refine w_leqN rfl rfl (fun hc => ?_) (fun hc => ?_)
      | refine w_gtrN rfl rfl (fun hc => ?_) (fun hc => ?_)
      | refine w_geqN rfl rfl (fun hc => ?_) (fun hc => ?_)
      | refine w_eqlN rfl rfl (fun hc => ?_) (fun hc => ?_)
      | refine w_neqN rfl rfl (fun hc => ?_) (fun hc => ?_)
      | refine w_lss rfl rfl (fun hc => ?_) (fun hc => ?_)
      | refine w_leq rfl rfl (fun hc => ?_) (fun hc => ?_)
      | refine w_gtr rfl rfl (fun hc => ?_) (fun hc => ?_)
      | refine w_geq rfl rfl (fun hc => ?_) (fun hc => ?_)
      | refine w_eql rfl rfl (fun hc => ?_) (fun hc => ?_)
      | refine w_neq rfl rfl (fun hc => ?_) (fun hc => ?_)
      | refine w_addN rfl rfl (by omega) ?_
      | refine w_opk rfl rfl ?_
      | refine w_cond_t rfl ?_
      | refine w_cond_f rfl ?_
      | refine w_skip ?_
      | refine w_exit rfl ?_
      | refine w_ret ?_
      | refine w_rt rfl ?_)
    rfl
  have hL : 0 < lf.length := Nat.pos_of_ne_zero hc
  refine w_call rfl ((pick_ok hO.pick hL bf).mono fun v h5 ⟨⟨k, hv, hk⟩, hh⟩ => ?_)
  subst hv hh
  repeat' (first
    | refine w_seq ?_
    | refine w_reg ?_
    | refine w_end (by simp only [outsV, nth, setV, List.take_succ_cons, List.take_zero, List.length_cons, List.length_nil, Nat.zero_add, Nat.reduceAdd] <;> rfl) ?_
    | refine w_off rfl ?_
    | refine w_rf rfl (by assumption) (by rfl) (by rfl) (by rfl) ?_
    | refine w_rfg rfl rfl (by assumption) (by rfl) (by rfl) (by rfl) (by rfl) ?_
    | refine w_on rfl ?_
    | refine w_len rfl (by assumption) ?_
    | refine w_lssN rfl rfl (fun hc => ?_) (fun hc => ?_)
    | refine w_leqN rfl rfl (fun hc => ?_) (fun hc => ?_)
    | refine w_gtrN rfl rfl (fun hc => ?_) (fun hc => ?_)
    | refine w_geqN rfl rfl (fun hc => ?_) (fun hc => ?_)
    | refine w_eqlN rfl rfl (fun hc => ?_) (fun hc => ?_)
    | refine w_neqN rfl rfl (fun hc => ?_) (fun hc => ?_)
    | refine w_lss rfl rfl (fun hc => ?_) (fun hc => ?_)
    | refine w_leq rfl rfl (fun hc => ?_) (fun hc => ?_)
    | refine w_gtr rfl rfl (fun hc => ?_) (fun hc => ?_)
    | refine w_geq rfl rfl (fun hc => ?_) (fun hc => ?_)
    | refine w_eql rfl rfl (fun hc => ?_) (fun hc => ?_)
    | refine w_neq rfl rfl (fun hc => ?_) (fun hc => ?_)
    | refine w_addN rfl rfl (by omega) ?_
    | refine w_opk rfl rfl ?_
    | refine w_cond_t rfl ?_
    | refine w_cond_f rfl ?_
    | refine w_skip ?_
    | refine w_exit rfl ?_
    | refine w_ret ?_
    | refine w_rt rfl ?_)
  refine w_mkS rfl rfl (by omega) (by omega) rfl fun al h6 hal hf6 => ?_
  have hE6 := hf6.ext0
  replace hM := hM.ext0 hE6
  replace hD := hD.ext0 hE6
  have E6 := E4.trans hE6
  refine w_build [.nils, .nils, al, .nils] rfl (by simp only [fillP, V.cells1 hal.rs.one, allOne, hal.rs.one]; rfl) ?_
  refine w_new (fun _ => rfl) rfl rfl (by simp only [V.cells, allOne, hal.rs.one]; rfl) fun i8 h7 hA hi8 hE7 => ?_
  have hMl := hM.1
  have hDl := hD.1
  have hall := hal.rs.lt
  replace hM := hM.ext0 hE7
  replace hD := hD.ext0 hE7
  replace hal := hal.ext0 hE7
  have E7 := E6.trans hE7
  have hfs := (hS0.ext E7).1
  have hAl := hA.1
  replace hA : Own h7 i8 [.nils, .nils, al, .nils] := hA
  repeat' (first
    | refine w_seq ?_
    | refine w_reg ?_
    | refine w_end (by simp only [outsV, nth, setV, List.take_succ_cons, List.take_zero, List.length_cons, List.length_nil, Nat.zero_add, Nat.reduceAdd] <;> rfl) ?_
    | refine w_off rfl ?_
    | refine w_rf rfl (by assumption) (by rfl) (by rfl) (by rfl) ?_
    | refine w_rfg rfl rfl (by assumption) (by rfl) (by rfl) (by rfl) (by rfl) ?_
    | refine w_on rfl ?_
    | refine w_len rfl (by assumption) ?_
    | refine w_lssN rfl rfl (fun hc => ?_) (fun hc => ?_)
    | refine w_leqN rfl rfl (fun hc => ?_) (fun hc => ?_)
    | refine w_gtrN rfl rfl (fun hc => ?_) (fun hc => ?_)
    | refine w_geqN rfl rfl (fun hc => ?_) (fun hc => ?_)
    | refine w_eqlN rfl rfl (fun hc => ?_) (fun hc => ?_)
    | refine w_neqN rfl rfl (fun hc => ?_) (fun hc => ?_)
    | refine w_lss rfl rfl (fun hc => ?_) (fun hc => ?_)
    | refine w_leq rfl rfl (fun hc => ?_) (fun hc => ?_)
    | refine w_gtr rfl rfl (fun hc => ?_) (fun hc => ?_)
    | refine w_geq rfl rfl (fun hc => ?_) (fun hc => ?_)
    | refine w_eql rfl rfl (fun hc => ?_) (fun hc => ?_)
    | refine w_neq rfl rfl (fun hc => ?_) (fun hc => ?_)
    | refine w_addN rfl rfl (by omega) ?_
    | refine w_opk rfl rfl ?_
    | refine w_cond_t rfl ?_
    | refine w_cond_f rfl ?_
    | refine w_skip ?_
    | refine w_exit rfl ?_
    | refine w_ret ?_
    | refine w_rt rfl ?_)
  have hkS : k < S.length := by rw [hS0.2.1]; exact hk
  obtain ⟨nm, pp, vv, code, ins, hlk, hcode0, hins, hinl, hsum⟩ := hS0.2.2 k lf[k] S[k] (List.getElem?_eq_getElem hk) (List.getElem?_eq_getElem hkS)
  have hcodel := hcode0.lt
  have hc1 : allOne [.str nm, .int .i64 pp, .int .i64 vv, code] = true := by simp only [allOne, hcode0.one]; rfl
  refine w_iadrS rfl rfl hfs hk ?_
  have hp := slot_at hfs hk
  rw [hlk] at hp
  refine w_loadA rfl hp rfl ?_
  have hk1 : k < (List.replicate (k + 1) [V.str [], nI 0, nI 0, V.nils]).length := by simp
  refine w_setE rfl rfl (fun _ => rfl) hal hk1 rfl (by decide) hc1 fun _ h8 hal2 hE8 hn8 => ?_
  have hal0 : ∀ jd ∈ slIds al, h5.n ≤ jd := fun jd hjd => by
    rcases hf6.2 jd hjd with e | e
    · cases e
    · exact e
  have hMl5 : im < h5.n := by have := hE3.1; have := hE4.1; omega
  have hDl5 : io < h5.n := by have := hE3.1; have := hE4.1; omega
  replace hM := hM.ext hE8 (fun e => by have := hal0 im e; omega)
  replace hD := hD.ext hE8 (fun e => by have := hal0 io e; omega)
  replace hA := hA.ext hE8 (fun e => by have := hall i8 e; omega)
  have E4n := E4.1
  have E8 : Ext h0 h8 := E7.step hE8 fun jd hjd => .inr (by have := hal0 jd hjd; omega)
  replace hal2 : Ow h8 4 al ((List.replicate (k + 1) [V.str [], nI 0, nI 0, V.nils]).set k [.str nm, .int .i64 pp, .int .i64 vv, code]) := by
    have e : splice ((List.replicate (k + 1) [V.str [], nI 0, nI 0, V.nils])[k]) 0 [.str nm, .int .i64 pp, .int .i64 vv, code] = [.str nm, .int .i64 pp, .int .i64 vv, code] := by
      rw [List.getElem_replicate]; rfl
    rw [← e]
    exact hal2
  repeat' (first
    | refine w_seq ?_
    | refine w_reg ?_
    | refine w_end (by simp only [outsV, nth, setV, List.take_succ_cons, List.take_zero, List.length_cons, List.length_nil, Nat.zero_add, Nat.reduceAdd] <;> rfl) ?_
    | refine w_off rfl ?_
    | refine w_rf rfl (by assumption) (by rfl) (by rfl) (by rfl) ?_
    | refine w_rfg rfl rfl (by assumption) (by rfl) (by rfl) (by rfl) (by rfl) ?_
    | refine w_on rfl ?_
    | refine w_len rfl (by assumption) ?_
    | refine w_lssN rfl rfl (fun hc => ?_) (fun hc => ?_)
    | refine w_leqN rfl rfl (fun hc => ?_) (fun hc => ?_)
    | refine w_gtrN rfl rfl (fun hc => ?_) (fun hc => ?_)
    | refine w_geqN rfl rfl (fun hc => ?_) (fun hc => ?_)
    | refine w_eqlN rfl rfl (fun hc => ?_) (fun hc => ?_)
    | refine w_neqN rfl rfl (fun hc => ?_) (fun hc => ?_)
    | refine w_lss rfl rfl (fun hc => ?_) (fun hc => ?_)
    | refine w_leq rfl rfl (fun hc => ?_) (fun hc => ?_)
    | refine w_gtr rfl rfl (fun hc => ?_) (fun hc => ?_)
    | refine w_geq rfl rfl (fun hc => ?_) (fun hc => ?_)
    | refine w_eql rfl rfl (fun hc => ?_) (fun hc => ?_)
    | refine w_neq rfl rfl (fun hc => ?_) (fun hc => ?_)
    | refine w_addN rfl rfl (by omega) ?_
    | refine w_opk rfl rfl ?_
    | refine w_cond_t rfl ?_
    | refine w_cond_f rfl ?_
    | refine w_skip ?_
    | refine w_exit rfl ?_
    | refine w_ret ?_
    | refine w_rt rfl ?_)
  have hk2 : k < ((List.replicate (k + 1) [V.str [], nI 0, nI 0, V.nils]).set k [.str nm, .int .i64 pp, .int .i64 vv, code]).length := by simp
  refine w_setF rfl rfl (fun _ _ => rfl) hal2 hk2 rfl (by decide) rfl fun _ _ h9 hal3 hE9 hn9 => ?_
  replace hM := hM.ext hE9 (fun e => by have := hal0 im e; omega)
  replace hD := hD.ext hE9 (fun e => by have := hal0 io e; omega)
  replace hA := hA.ext hE9 (fun e => by have := hall i8 e; omega)
  have E9 : Ext h0 h9 := E8.step hE9 fun jd hjd => .inr (by have := hal0 jd hjd; omega)
  generalize hla : (((List.replicate (k + 1) [V.str [], nI 0, nI 0, V.nils]).set k [.str nm, .int .i64 pp, .int .i64 vv, code]).set k (splice ((List.replicate (k + 1) [V.str [], nI 0, nI 0, V.nils]).set k [.str nm, .int .i64 pp, .int .i64 vv, code])[k] 0 (V.str [111, 116, 104, 101, 114]).cells)) = la at hal3
  have hlak : la[k]? = some [.str [111, 116, 104, 101, 114], .int .i64 pp, .int .i64 vv, code] := by
    rw [← hla]
    simp [splice, over, V.cells]
  repeat' (first
    | refine w_seq ?_
    | refine w_reg ?_
    | refine w_end (by simp only [outsV, nth, setV, List.take_succ_cons, List.take_zero, List.length_cons, List.length_nil, Nat.zero_add, Nat.reduceAdd] <;> rfl) ?_
    | refine w_off rfl ?_
    | refine w_rf rfl (by assumption) (by rfl) (by rfl) (by rfl) ?_
    | refine w_rfg rfl rfl (by assumption) (by rfl) (by rfl) (by rfl) (by rfl) ?_
    | refine w_on rfl ?_
    | refine w_len rfl (by assumption) ?_
    | refine w_lssN rfl rfl (fun hc => ?_) (fun hc => ?_)
    | refine w_leqN rfl rfl (fun hc => ?_) (fun hc => ?_)
    | refine w_gtrN rfl rfl (fun hc => ?_) (fun hc => ?_)
    | refine w_geqN rfl rfl (fun hc => ?_) (fun hc => ?_)
    | refine w_eqlN rfl rfl (fun hc => ?_) (fun hc => ?_)
    | refine w_neqN rfl rfl (fun hc => ?_) (fun hc => ?_)
    | refine w_lss rfl rfl (fun hc => ?_) (fun hc => ?_)
    | refine w_leq rfl rfl (fun hc => ?_) (fun hc => ?_)
    | refine w_gtr rfl rfl (fun hc => ?_) (fun hc => ?_)
    | refine w_geq rfl rfl (fun hc => ?_) (fun hc => ?_)
    | refine w_eql rfl rfl (fun hc => ?_) (fun hc => ?_)
    | refine w_neq rfl rfl (fun hc => ?_) (fun hc => ?_)
    | refine w_addN rfl rfl (by omega) ?_
    | refine w_opk rfl rfl ?_
    | refine w_cond_t rfl ?_
    | refine w_cond_f rfl ?_
    | refine w_skip ?_
    | refine w_exit rfl ?_
    | refine w_ret ?_
    | refine w_rt rfl ?_)
  refine w_loadA rfl (hD.at rfl) rfl ?_
  refine w_new (fun _ => rfl) rfl rfl hone2.2 fun i9 h10 hB hi9 hE10 => ?_
  replace hB : Own h10 i9 [ds, us, gs, ps] := hB
  have hMl9 := hM.1
  have hDl9 := hD.1
  have hAl9 := hA.1
  have hall9 := hal3.rs.lt
  replace hM := hM.ext0 hE10
  replace hD := hD.ext0 hE10
  replace hA := hA.ext0 hE10
  replace hal3 := hal3.ext0 hE10
  have E10 := E9.trans hE10
  have hBl := hB.1
  clear hal hal2 hfs hE8 hE9 hE10 hE7 hE6 hp
  repeat' (first
    | refine w_seq ?_
    | refine w_reg ?_
    | refine w_end (by simp only [outsV, nth, setV, List.take_succ_cons, List.take_zero, List.length_cons, List.length_nil, Nat.zero_add, Nat.reduceAdd] <;> rfl) ?_
    | refine w_off rfl ?_
    | refine w_rf rfl (by assumption) (by rfl) (by rfl) (by rfl) ?_
    | refine w_rfg rfl rfl (by assumption) (by rfl) (by rfl) (by rfl) (by rfl) ?_
    | refine w_on rfl ?_
    | refine w_len rfl (by assumption) ?_
    | refine w_lssN rfl rfl (fun hc => ?_) (fun hc => ?_)
    | refine w_leqN rfl rfl (fun hc => ?_) (fun hc => ?_)
    | refine w_gtrN rfl rfl (fun hc => ?_) (fun hc => ?_)
    | refine w_geqN rfl rfl (fun hc => ?_) (fun hc => ?_)
    | refine w_eqlN rfl rfl (fun hc => ?_) (fun hc => ?_)
    | refine w_neqN rfl rfl (fun hc => ?_) (fun hc => ?_)
    | refine w_lss rfl rfl (fun hc => ?_) (fun hc => ?_)
    | refine w_leq rfl rfl (fun hc => ?_) (fun hc => ?_)
    | refine w_gtr rfl rfl (fun hc => ?_) (fun hc => ?_)
    | refine w_geq rfl rfl (fun hc => ?_) (fun hc => ?_)
    | refine w_eql rfl rfl (fun hc => ?_) (fun hc => ?_)
    | refine w_neq rfl rfl (fun hc => ?_) (fun hc => ?_)
    | refine w_addN rfl rfl (by omega) ?_
    | refine w_opk rfl rfl ?_
    | refine w_cond_t rfl ?_
    | refine w_cond_f rfl ?_
    | refine w_skip ?_
    | refine w_exit rfl ?_
    | refine w_ret ?_
    | refine w_rt rfl ?_)
  refine w_bslice [] rfl (by rfl) rfl rfl (by simp) fun e0 h11 he0 hf11 => ?_
  have hE11 := hf11.ext0
  have he0n : ∀ jd ∈ slIds e0, h10.n ≤ jd := fun jd hjd => by
    rcases hf11.2 jd hjd with e | e
    · cases e
    · exact e
  replace hM := hM.ext0 hE11
  replace hD := hD.ext0 hE11
  replace hA := hA.ext0 hE11
  replace hB := hB.ext0 hE11
  replace hal3 := hal3.ext0 hE11
  have E11 := E10.trans hE11
  have hgs := hgs0.ext0 E11
  have hfs := hfs0.ext0 E11
  repeat' (first
    | refine w_seq ?_
    | refine w_reg ?_
    | refine w_end (by simp only [outsV, nth, setV, List.take_succ_cons, List.take_zero, List.length_cons, List.length_nil, Nat.zero_add, Nat.reduceAdd] <;> rfl) ?_
    | refine w_off rfl ?_
    | refine w_rf rfl (by assumption) (by rfl) (by rfl) (by rfl) ?_
    | refine w_rfg rfl rfl (by assumption) (by rfl) (by rfl) (by rfl) (by rfl) ?_
    | refine w_on rfl ?_
    | refine w_len rfl (by assumption) ?_
    | refine w_lssN rfl rfl (fun hc => ?_) (fun hc => ?_)
    | refine w_leqN rfl rfl (fun hc => ?_) (fun hc => ?_)
    | refine w_gtrN rfl rfl (fun hc => ?_) (fun hc => ?_)
    | refine w_geqN rfl rfl (fun hc => ?_) (fun hc => ?_)
    | refine w_eqlN rfl rfl (fun hc => ?_) (fun hc => ?_)
    | refine w_neqN rfl rfl (fun hc => ?_) (fun hc => ?_)
    | refine w_lss rfl rfl (fun hc => ?_) (fun hc => ?_)
    | refine w_leq rfl rfl (fun hc => ?_) (fun hc => ?_)
    | refine w_gtr rfl rfl (fun hc => ?_) (fun hc => ?_)
    | refine w_geq rfl rfl (fun hc => ?_) (fun hc => ?_)
    | refine w_eql rfl rfl (fun hc => ?_) (fun hc => ?_)
    | refine w_neq rfl rfl (fun hc => ?_) (fun hc => ?_)
    | refine w_addN rfl rfl (by omega) ?_
    | refine w_opk rfl rfl ?_
    | refine w_cond_t rfl ?_
    | refine w_cond_f rfl ?_
    | refine w_skip ?_
    | refine w_exit rfl ?_
    | refine w_ret ?_
    | refine w_rt rfl ?_)
  have hsub : (if wrapK .i64 (Int.ofNat k - Int.ofNat lg.length) > Int.ofNat 0 then wrapK .i64 (Int.ofNat k - Int.ofNat lg.length) else Int.ofNat 0) = Int.ofNat (k - lg.length) := by
    have e1 : Int.ofNat k = (k : Int) := rfl
    have e2 : Int.ofNat lg.length = (lg.length : Int) := rfl
    have e3 : Int.ofNat 0 = (0 : Int) := rfl
    have e4 : Int.ofNat (k - lg.length) = ((k - lg.length : Nat) : Int) := rfl
    rw [e1, e2, e3, e4, wrapK_eq, wrap_i64_of (by omega) (by omega)]
    split <;> omega
  refine w_mx1 rfl rfl hsub ?_
  repeat' (first
    | refine w_seq ?_
    | refine w_reg ?_
    | refine w_end (by simp only [outsV, nth, setV, List.take_succ_cons, List.take_zero, List.length_cons, List.length_nil, Nat.zero_add, Nat.reduceAdd] <;> rfl) ?_
    | refine w_off rfl ?_
    | refine w_rf rfl (by assumption) (by rfl) (by rfl) (by rfl) ?_
    | refine w_rfg rfl rfl (by assumption) (by rfl) (by rfl) (by rfl) (by rfl) ?_
    | refine w_on rfl ?_
    | refine w_len rfl (by assumption) ?_
    | refine w_lssN rfl rfl (fun hc => ?_) (fun hc => ?_)
    | refine w_leqN rfl rfl (fun hc => ?_) (fun hc => ?_)
    | refine w_gtrN rfl rfl (fun hc => ?_) (fun hc => ?_)
    | refine w_geqN rfl rfl (fun hc => ?_) (fun hc => ?_)
    | refine w_eqlN rfl rfl (fun hc => ?_) (fun hc => ?_)
    | refine w_neqN rfl rfl (fun hc => ?_) (fun hc => ?_)
    | refine w_lss rfl rfl (fun hc => ?_) (fun hc => ?_)
    | refine w_leq rfl rfl (fun hc => ?_) (fun hc => ?_)
    | refine w_gtr rfl rfl (fun hc => ?_) (fun hc => ?_)
    | refine w_geq rfl rfl (fun hc => ?_) (fun hc => ?_)
    | refine w_eql rfl rfl (fun hc => ?_) (fun hc => ?_)
    | refine w_neq rfl rfl (fun hc => ?_) (fun hc => ?_)
    | refine w_addN rfl rfl (by omega) ?_
    | refine w_opk rfl rfl ?_
    | refine w_cond_t rfl ?_
    | refine w_cond_f rfl ?_
    | refine w_skip ?_
    | refine w_exit rfl ?_
    | refine w_ret ?_
    | refine w_rt rfl ?_)
  refine w_iadrS rfl rfl hfs hk ?_
  have hp := slot_at hfs hk
  rw [hlk] at hp
  refine w_loadA rfl hp rfl ?_
  refine w_lit1N rfl rfl rfl hc1 fun lt1 h12 hlt hnew hf12 => ?_
  refine w_snap rfl hnew ?_
  have hE12 := hf12.ext0
  have hlt0 : ∀ jd ∈ slIds lt1, h11.n ≤ jd := fun jd hjd => by
    rcases hf12.2 jd hjd with e | e
    · cases e
    · exact e
  have he0l := he0.rs.lt
  replace hM := hM.ext0 hE12
  replace hD := hD.ext0 hE12
  replace hA := hA.ext0 hE12
  replace hB := hB.ext0 hE12
  replace hal3 := hal3.ext0 hE12
  replace he0 := he0.ext0 hE12
  have E12 := E11.trans hE12
  replace hgs := hgs0.ext0 E12
  refine w_app rfl rfl he0 hgs (by simp; omega) fun e1 h13 he1 hf13 => ?_
  rw [List.nil_append] at he1
  have E10n := E10.1
  have hE11n := hE11.1
  have hE12n := hE12.1
  have he1n : ∀ jd ∈ slIds e1, h10.n ≤ jd ∧ jd ∉ slIds lt1 := fun jd hjd => by
    rcases hf13.2 jd hjd with e | e
    · have := he0n jd e; have := he0l jd e
      exact ⟨by omega, fun e' => by have := hlt0 jd e'; omega⟩
    · have := hlt.rs.lt
      exact ⟨by omega, fun e' => by have := this jd e'; omega⟩
  have hdis : ∀ {hh : Heap} {sv : V} {hh' : Heap}, (∀ jd ∈ slIds sv, h10.n ≤ jd) → ExtX (slIds sv) hh hh' → Own hh im (V.agg [cs, ts, fs, rs]).cells → Own hh io (V.agg [ds, us, gs, ps]).cells → Own hh i8 [.nils, .nils, al, .nils] → Own hh i9 [ds, us, gs, ps] → Ow hh 4 al la → Ext h0 hh →
      Own hh' im (V.agg [cs, ts, fs, rs]).cells ∧ Own hh' io (V.agg [ds, us, gs, ps]).cells ∧ Own hh' i8 [.nils, .nils, al, .nils] ∧ Own hh' i9 [ds, us, gs, ps] ∧ Ow hh' 4 al la ∧ Ext h0 hh' :=
    fun hn hE a1 a2 a3 a4 a5 a6 => ⟨a1.ext hE (fun e => by have := hn im e; omega), a2.ext hE (fun e => by have := hn io e; omega), a3.ext hE (fun e => by have := hn i8 e; omega), a4.ext hE (fun e => by have := hn i9 e; omega),
      a5.ext hE (fun jd hjd e => by have := hn jd e; have := hall9 jd hjd; omega), a6.step hE fun jd hjd => .inr (by have := hn jd hjd; omega)⟩
  obtain ⟨hM, hD, hA, hB, hal3, E13⟩ := hdis he0n hf13.1 hM hD hA hB hal3 E12
  have hnew1 := hnew.ext hf13.1 (fun jd hjd e => by have := hlt0 jd hjd; have := he0l jd e; omega)
  have hlt1 := hlt.ext hf13.1 (fun jd hjd e => by have := hlt0 jd hjd; have := he0l jd e; omega)
  have hfs13 := hfs0.ext0 E13
  have hgs13 := hgs0.ext0 E13
  have hp13 := slot_at hfs13 hk
  rw [hlk] at hp13
  refine w_chkObj rfl rfl hnew1 ?_
  refine w_chkA rfl rfl hp13 (by simp) (V.beqL_refl _) ?_
  refine w_chk1 rfl rfl ((hM.at rfl).fadr (d := 2) (by simp [V.cells])) (V.beq_refl _) ?_
  refine w_chk1 rfl rfl ((hD.at rfl).fadr (d := 2) (by simp [V.cells])) (V.beq_refl _) ?_
  refine w_appz rfl rfl he1 rfl (by omega) fun e2 h14 he2 hf14 => ?_
  have he2n : ∀ jd ∈ slIds e2, h10.n ≤ jd ∧ jd ∉ slIds lt1 := fun jd hjd => by
    rcases hf14.2 jd hjd with e | e
    · exact he1n jd e
    · have hf13n := hf13.1.1
      have := hlt.rs.lt
      exact ⟨by omega, fun e' => by have := this jd e'; omega⟩
  obtain ⟨hM, hD, hA, hB, hal3, E14⟩ := hdis (fun jd hjd => (he1n jd hjd).1) hf14.1 hM hD hA hB hal3 E13
  have hnew2 := hnew1.ext hf14.1 (fun jd hjd e => (he1n jd e).2 hjd)
  have hlt2 := hlt1.ext hf14.1 (fun jd hjd e => (he1n jd e).2 hjd)
  have hp14 := slot_at (hfs0.ext0 E14) hk
  rw [hlk] at hp14
  refine w_chkObj rfl rfl hnew2 ?_
  refine w_chkA rfl rfl hp14 (by simp) (V.beqL_refl _) ?_
  refine w_chk1 rfl rfl ((hM.at rfl).fadr (d := 2) (by simp [V.cells])) (V.beq_refl _) ?_
  refine w_app rfl rfl he2 hlt2.rs (by simp; omega) fun e3 h15 he3 hf15 => ?_
  have he3n : ∀ jd ∈ slIds e3, h10.n ≤ jd := fun jd hjd => by
    rcases hf15.2 jd hjd with e | e
    · exact (he2n jd e).1
    · have := hf14.1.1; have := hf13.1.1; omega
  obtain ⟨hM, hD, hA, hB, hal3, E15⟩ := hdis (fun jd hjd => (he2n jd hjd).1) hf15.1 hM hD hA hB hal3 E14
  repeat' (first
    | refine w_seq ?_
    | refine w_reg ?_
    | refine w_end (by simp only [outsV, nth, setV, List.take_succ_cons, List.take_zero, List.length_cons, List.length_nil, Nat.zero_add, Nat.reduceAdd] <;> rfl) ?_
    | refine w_off rfl ?_
    | refine w_rf rfl (by assumption) (by rfl) (by rfl) (by rfl) ?_
    | refine w_rfg rfl rfl (by assumption) (by rfl) (by rfl) (by rfl) (by rfl) ?_
    | refine w_on rfl ?_
    | refine w_len rfl (by assumption) ?_
    | refine w_lssN rfl rfl (fun hc => ?_) (fun hc => ?_)
    | refine w_leqN rfl rfl (fun hc => ?_) (fun hc => ?_)
    | refine w_gtrN rfl rfl (fun hc => ?_) (fun hc => ?_)
    | refine w_geqN rfl rfl (fun hc => ?_) (fun hc => ?_)
    | refine w_eqlN rfl rfl (fun hc => ?_) (fun hc => ?_)
    | refine w_neqN rfl rfl (fun hc => ?_) (fun hc => ?_)
    | refine w_lss rfl rfl (fun hc => ?_) (fun hc => ?_)
    | refine w_leq rfl rfl (fun hc => ?_) (fun hc => ?_)
    | refine w_gtr rfl rfl (fun hc => ?_) (fun hc => ?_)
    | refine w_geq rfl rfl (fun hc => ?_) (fun hc => ?_)
    | refine w_eql rfl rfl (fun hc => ?_) (fun hc => ?_)
    | refine w_neq rfl rfl (fun hc => ?_) (fun hc => ?_)
    | refine w_addN rfl rfl (by omega) ?_
    | refine w_opk rfl rfl ?_
    | refine w_cond_t rfl ?_
    | refine w_cond_f rfl ?_
    | refine w_skip ?_
    | refine w_exit rfl ?_
    | refine w_ret ?_
    | refine w_rt rfl ?_)
  refine w_store rfl rfl hB (by rw [V.cells1 he3.rs.one]; rfl) (by rw [V.cells1 he3.rs.one]; simp only [allOne, he3.rs.one]) (by decide) (by simp) fun h16 hB2 hE16 _ => ?_
  rw [V.cells1 he3.rs.one] at hB2
  replace hB2 : Own h16 i9 [ds, us, e3, ps] := hB2
  have hi9s : i9 ∉ slIds e3 := fun e => by have := he3n i9 e; omega
  replace hM := hM.ext hE16 (by simp; omega)
  replace hD := hD.ext hE16 (by simp; omega)
  replace hA := hA.ext hE16 (by simp; omega)
  replace hal3 := hal3.ext hE16 (fun jd hjd => by have := hall9 jd hjd; simp; omega)
  replace he3 := he3.ext hE16 (fun jd hjd => by simp; intro e; exact hi9s (e ▸ hjd))
  have hi90 : h0.n ≤ i9 := by have := E9.1; omega
  have E16 : Ext h0 h16 := E15.step hE16 fun jd hjd => by simp at hjd; exact .inr (by omega)
  have hgs16 := hgs0.ext0 E16
  clear hnew hnew1 hnew2 hlt hlt1 hlt2 hp hp13 hp14 hdis hE11 hE12 he0 he1 he2
  repeat' (first
    | refine w_seq ?_
    | refine w_reg ?_
    | refine w_end (by simp only [outsV, nth, setV, List.take_succ_cons, List.take_zero, List.length_cons, List.length_nil, Nat.zero_add, Nat.reduceAdd] <;> rfl) ?_
    | refine w_off rfl ?_
    | refine w_rf rfl (by assumption) (by rfl) (by rfl) (by rfl) ?_
    | refine w_rfg rfl rfl (by assumption) (by rfl) (by rfl) (by rfl) (by rfl) ?_
    | refine w_on rfl ?_
    | refine w_len rfl (by assumption) ?_
    | refine w_lssN rfl rfl (fun hc => ?_) (fun hc => ?_)
    | refine w_leqN rfl rfl (fun hc => ?_) (fun hc => ?_)
    | refine w_gtrN rfl rfl (fun hc => ?_) (fun hc => ?_)
    | refine w_geqN rfl rfl (fun hc => ?_) (fun hc => ?_)
    | refine w_eqlN rfl rfl (fun hc => ?_) (fun hc => ?_)
    | refine w_neqN rfl rfl (fun hc => ?_) (fun hc => ?_)
    | refine w_lss rfl rfl (fun hc => ?_) (fun hc => ?_)
    | refine w_leq rfl rfl (fun hc => ?_) (fun hc => ?_)
    | refine w_gtr rfl rfl (fun hc => ?_) (fun hc => ?_)
    | refine w_geq rfl rfl (fun hc => ?_) (fun hc => ?_)
    | refine w_eql rfl rfl (fun hc => ?_) (fun hc => ?_)
    | refine w_neq rfl rfl (fun hc => ?_) (fun hc => ?_)
    | refine w_addN rfl rfl (by omega) ?_
    | refine w_opk rfl rfl ?_
    | refine w_cond_t rfl ?_
    | refine w_cond_f rfl ?_
    | refine w_skip ?_
    | refine w_exit rfl ?_
    | refine w_ret ?_
    | refine w_rt rfl ?_)
  have hmax : (if Int.ofNat k > Int.ofNat lg.length then Int.ofNat k else Int.ofNat lg.length) = Int.ofNat (max lg.length k) := by
    have e1 : Int.ofNat k = (k : Int) := rfl
    have e2 : Int.ofNat lg.length = (lg.length : Int) := rfl
    have e3 : Int.ofNat (max lg.length k) = ((max lg.length k : Nat) : Int) := rfl
    rw [e1, e2, e3]
    split <;> omega
  refine w_mx1 rfl rfl hmax ?_
  have hka : k < la.length := (List.getElem?_eq_some_iff.1 hlak).1
  have hlak' : la[k] = [.str [111, 116, 104, 101, 114], .int .i64 pp, .int .i64 vv, code] := (List.getElem?_eq_some_iff.1 hlak).2
  generalize hlm : lg ++ List.replicate (k - lg.length) [V.str [], nI 0, nI 0, V.nils] ++ [(V.agg (List.take 4 [V.str nm, V.int IntKind.i64 pp, V.int IntKind.i64 vv, code])).cells] = lm at he3
  have hmm : lm[max lg.length k]? = some [.str nm, .int .i64 pp, .int .i64 vv, code] := by
    rw [← hlm, List.getElem?_append_right (by simp; omega)]
    simp only [List.length_append, List.length_replicate]
    rw [show max lg.length k - (lg.length + (k - lg.length)) = 0 by omega]
    rfl
  have hmk : max lg.length k < lm.length := (List.getElem?_eq_some_iff.1 hmm).1
  have hmk' : lm[max lg.length k] = [.str nm, .int .i64 pp, .int .i64 vv, code] := (List.getElem?_eq_some_iff.1 hmm).2
  have hfs16 := hfs0.ext0 E16
  have hcode := hcode0.ext0 E16
  repeat' (first
    | refine w_seq ?_
    | refine w_reg ?_
    | refine w_end (by simp only [outsV, nth, setV, List.take_succ_cons, List.take_zero, List.length_cons, List.length_nil, Nat.zero_add, Nat.reduceAdd] <;> rfl) ?_
    | refine w_off rfl ?_
    | refine w_rf rfl (by assumption) (by rfl) (by rfl) (by rfl) ?_
    | refine w_rfg rfl rfl (by assumption) (by rfl) (by rfl) (by rfl) (by rfl) ?_
    | refine w_on rfl ?_
    | refine w_len rfl (by assumption) ?_
    | refine w_lssN rfl rfl (fun hc => ?_) (fun hc => ?_)
    | refine w_leqN rfl rfl (fun hc => ?_) (fun hc => ?_)
    | refine w_gtrN rfl rfl (fun hc => ?_) (fun hc => ?_)
    | refine w_geqN rfl rfl (fun hc => ?_) (fun hc => ?_)
    | refine w_eqlN rfl rfl (fun hc => ?_) (fun hc => ?_)
    | refine w_neqN rfl rfl (fun hc => ?_) (fun hc => ?_)
    | refine w_lss rfl rfl (fun hc => ?_) (fun hc => ?_)
    | refine w_leq rfl rfl (fun hc => ?_) (fun hc => ?_)
    | refine w_gtr rfl rfl (fun hc => ?_) (fun hc => ?_)
    | refine w_geq rfl rfl (fun hc => ?_) (fun hc => ?_)
    | refine w_eql rfl rfl (fun hc => ?_) (fun hc => ?_)
    | refine w_neq rfl rfl (fun hc => ?_) (fun hc => ?_)
    | refine w_addN rfl rfl (by omega) ?_
    | refine w_opk rfl rfl ?_
    | refine w_cond_t rfl ?_
    | refine w_cond_f rfl ?_
    | refine w_skip ?_
    | refine w_exit rfl ?_
    | refine w_ret ?_
    | refine w_rt rfl ?_)
  refine w_loadA rfl (hM.at rfl) rfl ?_
  repeat' (first
    | refine w_seq ?_
    | refine w_reg ?_
    | refine w_end (by simp only [outsV, nth, setV, List.take_succ_cons, List.take_zero, List.length_cons, List.length_nil, Nat.zero_add, Nat.reduceAdd] <;> rfl) ?_
    | refine w_off rfl ?_
    | refine w_rf rfl (by assumption) (by rfl) (by rfl) (by rfl) ?_
    | refine w_rfg rfl rfl (by assumption) (by rfl) (by rfl) (by rfl) (by rfl) ?_
    | refine w_on rfl ?_
    | refine w_len rfl (by assumption) ?_
    | refine w_lssN rfl rfl (fun hc => ?_) (fun hc => ?_)
    | refine w_leqN rfl rfl (fun hc => ?_) (fun hc => ?_)
    | refine w_gtrN rfl rfl (fun hc => ?_) (fun hc => ?_)
    | refine w_geqN rfl rfl (fun hc => ?_) (fun hc => ?_)
    | refine w_eqlN rfl rfl (fun hc => ?_) (fun hc => ?_)
    | refine w_neqN rfl rfl (fun hc => ?_) (fun hc => ?_)
    | refine w_lss rfl rfl (fun hc => ?_) (fun hc => ?_)
    | refine w_leq rfl rfl (fun hc => ?_) (fun hc => ?_)
    | refine w_gtr rfl rfl (fun hc => ?_) (fun hc => ?_)
    | refine w_geq rfl rfl (fun hc => ?_) (fun hc => ?_)
    | refine w_eql rfl rfl (fun hc => ?_) (fun hc => ?_)
    | refine w_neq rfl rfl (fun hc => ?_) (fun hc => ?_)
    | refine w_addN rfl rfl (by omega) ?_
    | refine w_opk rfl rfl ?_
    | refine w_cond_t rfl ?_
    | refine w_cond_f rfl ?_
    | refine w_skip ?_
    | refine w_exit rfl ?_
    | refine w_ret ?_
    | refine w_rt rfl ?_)
  refine w_loadA rfl (hA.at rfl) rfl ?_
  repeat' (first
    | refine w_seq ?_
    | refine w_reg ?_
    | refine w_end (by simp only [outsV, nth, setV, List.take_succ_cons, List.take_zero, List.length_cons, List.length_nil, Nat.zero_add, Nat.reduceAdd] <;> rfl) ?_
    | refine w_off rfl ?_
    | refine w_rf rfl (by assumption) (by rfl) (by rfl) (by rfl) ?_
    | refine w_rfg rfl rfl (by assumption) (by rfl) (by rfl) (by rfl) (by rfl) ?_
    | refine w_on rfl ?_
    | refine w_len rfl (by assumption) ?_
    | refine w_lssN rfl rfl (fun hc => ?_) (fun hc => ?_)
    | refine w_leqN rfl rfl (fun hc => ?_) (fun hc => ?_)
    | refine w_gtrN rfl rfl (fun hc => ?_) (fun hc => ?_)
    | refine w_geqN rfl rfl (fun hc => ?_) (fun hc => ?_)
    | refine w_eqlN rfl rfl (fun hc => ?_) (fun hc => ?_)
    | refine w_neqN rfl rfl (fun hc => ?_) (fun hc => ?_)
    | refine w_lss rfl rfl (fun hc => ?_) (fun hc => ?_)
    | refine w_leq rfl rfl (fun hc => ?_) (fun hc => ?_)
    | refine w_gtr rfl rfl (fun hc => ?_) (fun hc => ?_)
    | refine w_geq rfl rfl (fun hc => ?_) (fun hc => ?_)
    | refine w_eql rfl rfl (fun hc => ?_) (fun hc => ?_)
    | refine w_neq rfl rfl (fun hc => ?_) (fun hc => ?_)
    | refine w_addN rfl rfl (by omega) ?_
    | refine w_opk rfl rfl ?_
    | refine w_cond_t rfl ?_
    | refine w_cond_f rfl ?_
    | refine w_skip ?_
    | refine w_exit rfl ?_
    | refine w_ret ?_
    | refine w_rt rfl ?_)
  refine w_call rfl ((sum_some hO.toOffSum rfl hone.2 hfs16 hk hlk hcode hins hinl).mono fun v h17 ⟨hv, hE17⟩ => ?_)
  subst hv
  replace hM := hM.ext0 hE17
  replace hA := hA.ext0 hE17
  replace hB2 := hB2.ext0 hE17
  replace hal3 := hal3.ext0 hE17
  replace he3 := he3.ext0 hE17
  replace hcode := hcode.ext0 hE17
  replace hfs16 := hfs16.ext0 hE17
  refine w_chkA rfl rfl (hA.at rfl) (by simp) (V.beqL_refl _) ?_
  refine w_call rfl ((sum_some hO.toOffSum rfl (by simp only [allOne, hal3.rs.one]; rfl) hal3.rs hka hlak' hcode hins hinl).mono fun v h18 ⟨hv, hE18⟩ => ?_)
  subst hv
  replace hM := hM.ext0 hE18
  replace hB2 := hB2.ext0 hE18
  replace he3 := he3.ext0 hE18
  replace hcode := hcode.ext0 hE18
  replace hfs16 := hfs16.ext0 hE18
  repeat' (first
    | refine w_seq ?_
    | refine w_reg ?_
    | refine w_end (by simp only [outsV, nth, setV, List.take_succ_cons, List.take_zero, List.length_cons, List.length_nil, Nat.zero_add, Nat.reduceAdd] <;> rfl) ?_
    | refine w_off rfl ?_
    | refine w_rf rfl (by assumption) (by rfl) (by rfl) (by rfl) ?_
    | refine w_rfg rfl rfl (by assumption) (by rfl) (by rfl) (by rfl) (by rfl) ?_
    | refine w_on rfl ?_
    | refine w_len rfl (by assumption) ?_
    | refine w_lssN rfl rfl (fun hc => ?_) (fun hc => ?_)
    | refine w_leqN rfl rfl (fun hc => ?_) (fun hc => ?_)
    | refine w_gtrN rfl rfl (fun hc => ?_) (fun hc => ?_)
    | refine w_geqN rfl rfl (fun hc => ?_) (fun hc => ?_)
    | refine w_eqlN rfl rfl (fun hc => ?_) (fun hc => ?_)
    | refine w_neqN rfl rfl (fun hc => ?_) (fun hc => ?_)
    | refine w_lss rfl rfl (fun hc => ?_) (fun hc => ?_)
    | refine w_leq rfl rfl (fun hc => ?_) (fun hc => ?_)
    | refine w_gtr rfl rfl (fun hc => ?_) (fun hc => ?_)
    | refine w_geq rfl rfl (fun hc => ?_) (fun hc => ?_)
    | refine w_eql rfl rfl (fun hc => ?_) (fun hc => ?_)
    | refine w_neq rfl rfl (fun hc => ?_) (fun hc => ?_)
    | refine w_addN rfl rfl (by omega) ?_
    | refine w_opk rfl rfl ?_
    | refine w_cond_t rfl ?_
    | refine w_cond_f rfl ?_
    | refine w_skip ?_
    | refine w_exit rfl ?_
    | refine w_ret ?_
    | refine w_rt rfl ?_)
  · refine w_loadA rfl (hM.at rfl) rfl ?_
    repeat' (first
      | refine w_seq ?_
      | refine w_reg ?_
      | refine w_end (by simp only [outsV, nth, setV, List.take_succ_cons, List.take_zero, List.length_cons, List.length_nil, Nat.zero_add, Nat.reduceAdd] <;> rfl) ?_
      | refine w_off rfl ?_
      | refine w_rf rfl (by assumption) (by rfl) (by rfl) (by rfl) ?_
      | refine w_rfg rfl rfl (by assumption) (by rfl) (by rfl) (by rfl) (by rfl) ?_
      | refine w_on rfl ?_
      | refine w_len rfl (by assumption) ?_
      | refine w_lssN rfl rfl (fun hc => ?_) (fun hc => ?_)
      | refine w_leqN rfl rfl (fun hc => ?_) (fun hc => ?_)
      | refine w_gtrN rfl rfl (fun hc => ?_) (fun hc => ?_)
      | refine w_geqN rfl rfl (fun hc => ?_) (fun hc => ?_)
      | refine w_eqlN rfl rfl (fun hc => ?_) (fun hc => ?_)
      | refine w_neqN rfl rfl (fun hc => ?_) (fun hc => ?_)
      | refine w_lss rfl rfl (fun hc => ?_) (fun hc => ?_)
      | refine w_leq rfl rfl (fun hc => ?_) (fun hc => ?_)
      | refine w_gtr rfl rfl (fun hc => ?_) (fun hc => ?_)
      | refine w_geq rfl rfl (fun hc => ?_) (fun hc => ?_)
      | refine w_eql rfl rfl (fun hc => ?_) (fun hc => ?_)
      | refine w_neq rfl rfl (fun hc => ?_) (fun hc => ?_)
      | refine w_addN rfl rfl (by omega) ?_
      | refine w_opk rfl rfl ?_
      | refine w_cond_t rfl ?_
      | refine w_cond_f rfl ?_
      | refine w_skip ?_
      | refine w_exit rfl ?_
      | refine w_ret ?_
      | refine w_rt rfl ?_)
    refine w_loadA rfl (hB2.at rfl) rfl ?_
    repeat' (first
      | refine w_seq ?_
      | refine w_reg ?_
      | refine w_end (by simp only [outsV, nth, setV, List.take_succ_cons, List.take_zero, List.length_cons, List.length_nil, Nat.zero_add, Nat.reduceAdd] <;> rfl) ?_
      | refine w_off rfl ?_
      | refine w_rf rfl (by assumption) (by rfl) (by rfl) (by rfl) ?_
      | refine w_rfg rfl rfl (by assumption) (by rfl) (by rfl) (by rfl) (by rfl) ?_
      | refine w_on rfl ?_
      | refine w_len rfl (by assumption) ?_
      | refine w_lssN rfl rfl (fun hc => ?_) (fun hc => ?_)
      | refine w_leqN rfl rfl (fun hc => ?_) (fun hc => ?_)
      | refine w_gtrN rfl rfl (fun hc => ?_) (fun hc => ?_)
      | refine w_geqN rfl rfl (fun hc => ?_) (fun hc => ?_)
      | refine w_eqlN rfl rfl (fun hc => ?_) (fun hc => ?_)
      | refine w_neqN rfl rfl (fun hc => ?_) (fun hc => ?_)
      | refine w_lss rfl rfl (fun hc => ?_) (fun hc => ?_)
      | refine w_leq rfl rfl (fun hc => ?_) (fun hc => ?_)
      | refine w_gtr rfl rfl (fun hc => ?_) (fun hc => ?_)
      | refine w_geq rfl rfl (fun hc => ?_) (fun hc => ?_)
      | refine w_eql rfl rfl (fun hc => ?_) (fun hc => ?_)
      | refine w_neq rfl rfl (fun hc => ?_) (fun hc => ?_)
      | refine w_addN rfl rfl (by omega) ?_
      | refine w_opk rfl rfl ?_
      | refine w_cond_t rfl ?_
      | refine w_cond_f rfl ?_
      | refine w_skip ?_
      | refine w_exit rfl ?_
      | refine w_ret ?_
      | refine w_rt rfl ?_)
    refine w_call rfl ((sum_some hO.toOffSum rfl hone.2 hfs16 hk hlk hcode hins hinl).mono fun v h19 ⟨hv, hE19⟩ => ?_)
    subst hv
    replace hM := hM.ext0 hE19
    replace hB2 := hB2.ext0 hE19
    replace he3 := he3.ext0 hE19
    replace hcode := hcode.ext0 hE19
    replace hfs16 := hfs16.ext0 hE19
    refine w_on rfl (w_chkA rfl rfl (hB2.at rfl) (by simp) (V.beqL_refl _) ?_)
    refine w_on rfl ?_
    refine w_call rfl ((sum_some hO.toOffSum rfl (by
      have h1 := allOne_iff.1 hone2.2
      exact allOne_iff.2 (by
        intro v hv
        simp only [List.mem_cons, List.not_mem_nil, or_false] at hv
        rcases hv with rfl | rfl | rfl | rfl
        · exact h1 _ (by simp)
        · exact h1 _ (by simp)
        · exact he3.rs.one
        · exact h1 _ (by simp))) he3.rs hmk hmk' hcode hins hinl).mono fun v h20 ⟨hv, hE20⟩ => ?_)
    subst hv
    replace hM := hM.ext0 hE20
    replace hfs16 := hfs16.ext0 hE20
    repeat' (first
      | refine w_seq ?_
      | refine w_reg ?_
      | refine w_end (by simp only [outsV, nth, setV, List.take_succ_cons, List.take_zero, List.length_cons, List.length_nil, Nat.zero_add, Nat.reduceAdd] <;> rfl) ?_
      | refine w_off rfl ?_
      | refine w_rf rfl (by assumption) (by rfl) (by rfl) (by rfl) ?_
      | refine w_rfg rfl rfl (by assumption) (by rfl) (by rfl) (by rfl) (by rfl) ?_
      | refine w_on rfl ?_
      | refine w_len rfl (by assumption) ?_
      | refine w_lssN rfl rfl (fun hc => ?_) (fun hc => ?_)
      | refine w_leqN rfl rfl (fun hc => ?_) (fun hc => ?_)
      | refine w_gtrN rfl rfl (fun hc => ?_) (fun hc => ?_)
      | refine w_geqN rfl rfl (fun hc => ?_) (fun hc => ?_)
      | refine w_eqlN rfl rfl (fun hc => ?_) (fun hc => ?_)
      | refine w_neqN rfl rfl (fun hc => ?_) (fun hc => ?_)
      | refine w_lss rfl rfl (fun hc => ?_) (fun hc => ?_)
      | refine w_leq rfl rfl (fun hc => ?_) (fun hc => ?_)
      | refine w_gtr rfl rfl (fun hc => ?_) (fun hc => ?_)
      | refine w_geq rfl rfl (fun hc => ?_) (fun hc => ?_)
      | refine w_eql rfl rfl (fun hc => ?_) (fun hc => ?_)
      | refine w_neq rfl rfl (fun hc => ?_) (fun hc => ?_)
      | refine w_addN rfl rfl (by omega) ?_
      | refine w_opk rfl rfl ?_
      | refine w_cond_t rfl ?_
      | refine w_cond_f rfl ?_
      | refine w_skip ?_
      | refine w_exit rfl ?_
      | refine w_ret ?_
      | refine w_rt rfl ?_)
    · refine w_loadA rfl (hM.at rfl) rfl ?_
      refine w_on rfl ?_
      refine w_call rfl ((sum_none hO.toOffSum rfl hone.2 hfs16 (n := Int.negSucc 0) (.inl (by decide))).mono fun v h21 ⟨hv, hE21⟩ => ?_)
      subst hv
      replace hM := hM.ext0 hE21
      replace hfs16 := hfs16.ext0 hE21
      repeat' (first
        | refine w_seq ?_
        | refine w_reg ?_
        | refine w_end (by simp only [outsV, nth, setV, List.take_succ_cons, List.take_zero, List.length_cons, List.length_nil, Nat.zero_add, Nat.reduceAdd] <;> rfl) ?_
        | refine w_off rfl ?_
        | refine w_rf rfl (by assumption) (by rfl) (by rfl) (by rfl) ?_
        | refine w_rfg rfl rfl (by assumption) (by rfl) (by rfl) (by rfl) (by rfl) ?_
        | refine w_on rfl ?_
        | refine w_len rfl (by assumption) ?_
        | refine w_lssN rfl rfl (fun hc => ?_) (fun hc => ?_)
        | refine w_leqN rfl rfl (fun hc => ?_) (fun hc => ?_)
        | refine w_gtrN rfl rfl (fun hc => ?_) (fun hc => ?_)
        | refine w_geqN rfl rfl (fun hc => ?_) (fun hc => ?_)
        | refine w_eqlN rfl rfl (fun hc => ?_) (fun hc => ?_)
        | refine w_neqN rfl rfl (fun hc => ?_) (fun hc => ?_)
        | refine w_lss rfl rfl (fun hc => ?_) (fun hc => ?_)
        | refine w_leq rfl rfl (fun hc => ?_) (fun hc => ?_)
        | refine w_gtr rfl rfl (fun hc => ?_) (fun hc => ?_)
        | refine w_geq rfl rfl (fun hc => ?_) (fun hc => ?_)
        | refine w_eql rfl rfl (fun hc => ?_) (fun hc => ?_)
        | refine w_neq rfl rfl (fun hc => ?_) (fun hc => ?_)
        | refine w_addN rfl rfl (by omega) ?_
        | refine w_opk rfl rfl ?_
        | refine w_cond_t rfl ?_
        | refine w_cond_f rfl ?_
        | refine w_skip ?_
        | refine w_exit rfl ?_
        | refine w_ret ?_
        | refine w_rt rfl ?_)
      · refine w_loadA rfl (hM.at rfl) rfl ?_
        repeat' (first
          | refine w_seq ?_
          | refine w_reg ?_
          | refine w_end (by simp only [outsV, nth, setV, List.take_succ_cons, List.take_zero, List.length_cons, List.length_nil, Nat.zero_add, Nat.reduceAdd] <;> rfl) ?_
          | refine w_off rfl ?_
          | refine w_rf rfl (by assumption) (by rfl) (by rfl) (by rfl) ?_
          | refine w_rfg rfl rfl (by assumption) (by rfl) (by rfl) (by rfl) (by rfl) ?_
          | refine w_on rfl ?_
          | refine w_len rfl (by assumption) ?_
          | refine w_lssN rfl rfl (fun hc => ?_) (fun hc => ?_)
          | refine w_leqN rfl rfl (fun hc => ?_) (fun hc => ?_)
          | refine w_gtrN rfl rfl (fun hc => ?_) (fun hc => ?_)
          | refine w_geqN rfl rfl (fun hc => ?_) (fun hc => ?_)
          | refine w_eqlN rfl rfl (fun hc => ?_) (fun hc => ?_)
          | refine w_neqN rfl rfl (fun hc => ?_) (fun hc => ?_)
          | refine w_lss rfl rfl (fun hc => ?_) (fun hc => ?_)
          | refine w_leq rfl rfl (fun hc => ?_) (fun hc => ?_)
          | refine w_gtr rfl rfl (fun hc => ?_) (fun hc => ?_)
          | refine w_geq rfl rfl (fun hc => ?_) (fun hc => ?_)
          | refine w_eql rfl rfl (fun hc => ?_) (fun hc => ?_)
          | refine w_neq rfl rfl (fun hc => ?_) (fun hc => ?_)
          | refine w_addN rfl rfl (by omega) ?_
          | refine w_opk rfl rfl ?_
          | refine w_cond_t rfl ?_
          | refine w_cond_f rfl ?_
          | refine w_skip ?_
          | refine w_exit rfl ?_
          | refine w_ret ?_
          | refine w_rt rfl ?_)
        refine w_call rfl ((sum_none hO.toOffSum rfl hone.2 hfs16 (n := Int.ofNat lf.length) (.inr (Int.le_refl _))).mono fun v h22 ⟨hv, hE22⟩ => ?_)
        subst hv
        repeat' (first
          | refine w_seq ?_
          | refine w_reg ?_
          | refine w_end (by simp only [outsV, nth, setV, List.take_succ_cons, List.take_zero, List.length_cons, List.length_nil, Nat.zero_add, Nat.reduceAdd] <;> rfl) ?_
          | refine w_off rfl ?_
          | refine w_rf rfl (by assumption) (by rfl) (by rfl) (by rfl) ?_
          | refine w_rfg rfl rfl (by assumption) (by rfl) (by rfl) (by rfl) (by rfl) ?_
          | refine w_on rfl ?_
          | refine w_len rfl (by assumption) ?_
          | refine w_lssN rfl rfl (fun hc => ?_) (fun hc => ?_)
          | refine w_leqN rfl rfl (fun hc => ?_) (fun hc => ?_)
          | refine w_gtrN rfl rfl (fun hc => ?_) (fun hc => ?_)
          | refine w_geqN rfl rfl (fun hc => ?_) (fun hc => ?_)
          | refine w_eqlN rfl rfl (fun hc => ?_) (fun hc => ?_)
          | refine w_neqN rfl rfl (fun hc => ?_) (fun hc => ?_)
          | refine w_lss rfl rfl (fun hc => ?_) (fun hc => ?_)
          | refine w_leq rfl rfl (fun hc => ?_) (fun hc => ?_)
          | refine w_gtr rfl rfl (fun hc => ?_) (fun hc => ?_)
          | refine w_geq rfl rfl (fun hc => ?_) (fun hc => ?_)
          | refine w_eql rfl rfl (fun hc => ?_) (fun hc => ?_)
          | refine w_neq rfl rfl (fun hc => ?_) (fun hc => ?_)
          | refine w_addN rfl rfl (by omega) ?_
          | refine w_opk rfl rfl ?_
          | refine w_cond_t rfl ?_
          | refine w_cond_f rfl ?_
          | refine w_skip ?_
          | refine w_exit rfl ?_
          | refine w_ret ?_
          | refine w_rt rfl ?_)
        · refine w_aw hO ?_
          repeat' (first
            | refine w_seq ?_
            | refine w_reg ?_
            | refine w_end (by simp only [outsV, nth, setV, List.take_succ_cons, List.take_zero, List.length_cons, List.length_nil, Nat.zero_add, Nat.reduceAdd] <;> rfl) ?_
            | refine w_off rfl ?_
            | refine w_rf rfl (by assumption) (by rfl) (by rfl) (by rfl) ?_
            | refine w_rfg rfl rfl (by assumption) (by rfl) (by rfl) (by rfl) (by rfl) ?_
            | refine w_on rfl ?_
            | refine w_len rfl (by assumption) ?_
            | refine w_lssN rfl rfl (fun hc => ?_) (fun hc => ?_)
            | refine w_leqN rfl rfl (fun hc => ?_) (fun hc => ?_)
            | refine w_gtrN rfl rfl (fun hc => ?_) (fun hc => ?_)
            | refine w_geqN rfl rfl (fun hc => ?_) (fun hc => ?_)
            | refine w_eqlN rfl rfl (fun hc => ?_) (fun hc => ?_)
            | refine w_neqN rfl rfl (fun hc => ?_) (fun hc => ?_)
            | refine w_lss rfl rfl (fun hc => ?_) (fun hc => ?_)
            | refine w_leq rfl rfl (fun hc => ?_) (fun hc => ?_)
            | refine w_gtr rfl rfl (fun hc => ?_) (fun hc => ?_)
            | refine w_geq rfl rfl (fun hc => ?_) (fun hc => ?_)
            | refine w_eql rfl rfl (fun hc => ?_) (fun hc => ?_)
            | refine w_neq rfl rfl (fun hc => ?_) (fun hc => ?_)
            | refine w_addN rfl rfl (by omega) ?_
            | refine w_opk rfl rfl ?_
            | refine w_cond_t rfl ?_
            | refine w_cond_f rfl ?_
            | refine w_skip ?_
            | refine w_exit rfl ?_
            | refine w_ret ?_
            | refine w_rt rfl ?_)
          rfl
        · exact absurd rfl hc
      · exact absurd rfl hc
    · exact absurd rfl hc
  · exact absurd rfl hc
end AmT
