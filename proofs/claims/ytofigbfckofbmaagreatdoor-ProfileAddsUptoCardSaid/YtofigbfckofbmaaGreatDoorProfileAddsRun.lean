/-
  ProfileAdds answers true at any three profiles. Conditions: they are profiles, by their cells.
-/
import Derived.Test.YtofigbfckofbmaaGreatDoorAddLaw
import Derived.Test.YtofigbfckofbmaaGreatDoorPSame
namespace AmT
open Go Am
set_option maxRecDepth 100000
set_option maxHeartbeats 4000000
set_option linter.unusedSimpArgs false
set_option linter.unusedVariables false
variable {O : CallF}

structure Off13 (O : CallF) : Prop extends OffAdd O where
  aw : ∀ h, O 15 [] h = some (.bool true, h)
  gr : ∀ a h, O 14 a h = none
  sm : ∀ a h, O 17 a h = none
  law : ∀ a h, O 6 a h = none

theorem w_aw13 {O : CallF} (hO : Off13 O) {vs ls : List V} {h : Heap} {Q : List V → Heap → Prop} {os : List AOp} (k1 : WPo tab.get O os (.bool true :: ls) vs h Q) : WPo tab.get O (⟨none, .call 15 []⟩ :: os) ls vs h Q :=
  w_call rfl (w_known (hO.aw h) k1)

theorem ProfR.one {h : Heap} {a : V} {P : List SeenT} (k : ProfR h a P) : allOne [a] = true := by
  obtain ⟨l, r, _⟩ := k
  simp only [allOne, r.one]

/-- What a sum's count is held against. -/
theorem count_ok {P Q : List SeenT} {i : Nat} {r s : SeenT} (hr : (addP P Q)[i]? = some r) (hs : P[i]? = some s) : (if 1099511627776 < s.1 then 1099511627776 else s.1) ≤ r.1 := by
  rw [addP_get, hs] at hr
  cases hq : Q[i]? with
  | none =>
    rw [hq] at hr
    simp only [optAdd, Option.some.injEq] at hr
    subst hr
    simp only [nrm, bnd]
    split <;> split <;> omega
  | some t =>
    rw [hq] at hr
    simp only [optAdd, Option.some.injEq] at hr
    subst hr
    simp only [addS, addC]
    have h1 := bnd_range s.1
    have h2 := bnd_range t.1
    have h3 : s.1 ≤ bnd s.1 ∨ 1099511627776 ≤ bnd s.1 := by
      unfold bnd
      simp only
      split <;> split <;> omega
    split <;> omega

theorem count_range {P Q : List SeenT} {i : Nat} {r : SeenT} (hr : (addP P Q)[i]? = some r) : 0 ≤ r.1 ∧ r.1 ≤ 1099511627776 := by
  rw [addP_get] at hr
  cases hp : P[i]? <;> cases hq : Q[i]? <;> rw [hp, hq] at hr <;> simp only [optAdd, Option.some.injEq] at hr
  · cases hr
  · subst hr; exact bnd_range _
  · subst hr; exact bnd_range _
  · subst hr; exact bnd_range _

theorem profileAdds_ok (hO : Off13 O) {h0 : Heap} {a b c : V} {P Q C : List SeenT} (ha : ProfR h0 a P) (hb : ProfR h0 b Q) (hc : ProfR h0 c C) :
    WPc tab.get O 6 [.agg [a], .agg [b], .agg [c]] h0 (fun v h' => v = .bool true) := by
  refine w_fn' (hO.law _ _) rfl rfl (by simp only [c6, initV, nth] <;> rfl) ?_
  refine w_seq (w_reg (w_box rfl rfl ha.one fun iA h1 hA hiA hE1 => ?_))
  refine w_box rfl rfl hb.one fun iB h2 hB hiB hE2 => ?_
  refine w_box rfl rfl hc.one fun iC h3 hC hiC hE3 => ?_
  have E3 := (hE1.trans hE2).trans hE3
  replace hA := (hA.ext0 hE2).ext0 hE3
  replace hB := hB.ext0 hE3
  clear hE1 hE2 hE3
  repeat' (first
    | refine w_seq ?_
    | refine w_reg ?_
    | refine w_end (by simp only [outsV, nth, setV, List.take_succ_cons, List.take_zero, List.length_cons, List.length_nil, Nat.zero_add, Nat.reduceAdd] <;> rfl) ?_
    | refine w_off rfl ?_
    | refine w_rf rfl (by assumption) (by rfl) (by rfl) (by rfl) ?_
    | refine w_rfg rfl rfl (by assumption) (by rfl) (by rfl) (by rfl) (by rfl) ?_
    | refine w_on rfl ?_
    | refine w_len rfl (by assumption) ?_
    | refine w_lssN rfl rfl (fun hc => ?_) (fun hc => ?_)
    | refine w_leqN rfl rfl (fun hc => ?_) (fun hc => ?_)
    | refine w_gtrN rfl rfl (fun hc => ?_) (fun hc => ?_)
    | refine w_geqN rfl rfl (fun hc => ?_) (fun hc => ?_)
    | refine w_eqlN rfl rfl (fun hc => ?_) (fun hc => ?_)
    | refine w_neqN rfl rfl (fun hc => ?_) (fun hc => ?_)
    | refine w_lss rfl rfl (fun hc => ?_) (fun hc => ?_)
    | refine w_leq rfl rfl (fun hc => ?_) (fun hc => ?_)
    | refine w_gtr rfl rfl (fun hc => ?_) (fun hc => ?_)
    | refine w_geq rfl rfl (fun hc => ?_) (fun hc => ?_)
    | refine w_eql rfl rfl (fun hc => ?_) (fun hc => ?_)
    | refine w_neq rfl rfl (fun hc => ?_) (fun hc => ?_)
    | refine w_addN rfl rfl (by omega) ?_
    | refine w_opk rfl rfl ?_
    | refine w_cond_t rfl ?_
    | refine w_cond_f rfl ?_
    | refine w_skip ?_
    | refine w_exit rfl ?_
    | refine w_ret ?_
    | refine w_rt rfl ?_)
  refine w_loadA rfl (hA.at rfl) rfl ?_
  refine w_call rfl ((great13_ok hO.gr (ha.ext E3)).mono fun v h4 ⟨⟨g, hv⟩, hE4⟩ => ?_)
  subst hv
  replace hA := hA.ext0 hE4
  replace hB := hB.ext0 hE4
  replace hC := hC.ext0 hE4
  have E4 := E3.trans hE4
  cases g with
  | true =>
    repeat' (first
      | refine w_seq ?_
      | refine w_reg ?_
      | refine w_end (by simp only [outsV, nth, setV, List.take_succ_cons, List.take_zero, List.length_cons, List.length_nil, Nat.zero_add, Nat.reduceAdd] <;> rfl) ?_
      | refine w_off rfl ?_
      | refine w_rf rfl (by assumption) (by rfl) (by rfl) (by rfl) ?_
      | refine w_rfg rfl rfl (by assumption) (by rfl) (by rfl) (by rfl) (by rfl) ?_
      | refine w_on rfl ?_
      | refine w_len rfl (by assumption) ?_
      | refine w_lssN rfl rfl (fun hc => ?_) (fun hc => ?_)
      | refine w_leqN rfl rfl (fun hc => ?_) (fun hc => ?_)
      | refine w_gtrN rfl rfl (fun hc => ?_) (fun hc => ?_)
      | refine w_geqN rfl rfl (fun hc => ?_) (fun hc => ?_)
      | refine w_eqlN rfl rfl (fun hc => ?_) (fun hc => ?_)
      | refine w_neqN rfl rfl (fun hc => ?_) (fun hc => ?_)
      | refine w_lss rfl rfl (fun hc => ?_) (fun hc => ?_)
      | refine w_leq rfl rfl (fun hc => ?_) (fun hc => ?_)
      | refine w_gtr rfl rfl (fun hc => ?_) (fun hc => ?_)
      | refine w_geq rfl rfl (fun hc => ?_) (fun hc => ?_)
      | refine w_eql rfl rfl (fun hc => ?_) (fun hc => ?_)
      | refine w_neq rfl rfl (fun hc => ?_) (fun hc => ?_)
      | refine w_addN rfl rfl (by omega) ?_
      | refine w_opk rfl rfl ?_
      | refine w_cond_t rfl ?_
      | refine w_cond_f rfl ?_
      | refine w_skip ?_
      | refine w_exit rfl ?_
      | refine w_ret ?_
      | refine w_rt rfl ?_)
    refine w_aw13 hO ?_
    repeat' (first
      | refine w_seq ?_
      | refine w_reg ?_
      | refine w_end (by simp only [outsV, nth, setV, List.take_succ_cons, List.take_zero, List.length_cons, List.length_nil, Nat.zero_add, Nat.reduceAdd] <;> rfl) ?_
      | refine w_off rfl ?_
      | refine w_rf rfl (by assumption) (by rfl) (by rfl) (by rfl) ?_
      | refine w_rfg rfl rfl (by assumption) (by rfl) (by rfl) (by rfl) (by rfl) ?_
      | refine w_on rfl ?_
      | refine w_len rfl (by assumption) ?_
      | refine w_lssN rfl rfl (fun hc => ?_) (fun hc => ?_)
      | refine w_leqN rfl rfl (fun hc => ?_) (fun hc => ?_)
      | refine w_gtrN rfl rfl (fun hc => ?_) (fun hc => ?_)
      | refine w_geqN rfl rfl (fun hc => ?_) (fun hc => ?_)
      | refine w_eqlN rfl rfl (fun hc => ?_) (fun hc => ?_)
      | refine w_neqN rfl rfl (fun hc => ?_) (fun hc => ?_)
      | refine w_lss rfl rfl (fun hc => ?_) (fun hc => ?_)
      | refine w_leq rfl rfl (fun hc => ?_) (fun hc => ?_)
      | refine w_gtr rfl rfl (fun hc => ?_) (fun hc => ?_)
      | refine w_geq rfl rfl (fun hc => ?_) (fun hc => ?_)
      | refine w_eql rfl rfl (fun hc => ?_) (fun hc => ?_)
      | refine w_neq rfl rfl (fun hc => ?_) (fun hc => ?_)
      | refine w_addN rfl rfl (by omega) ?_
      | refine w_opk rfl rfl ?_
      | refine w_cond_t rfl ?_
      | refine w_cond_f rfl ?_
      | refine w_skip ?_
      | refine w_exit rfl ?_
      | refine w_ret ?_
      | refine w_rt rfl ?_)
    rfl
  | false =>
  repeat' (first
    | refine w_seq ?_
    | refine w_reg ?_
    | refine w_end (by simp only [outsV, nth, setV, List.take_succ_cons, List.take_zero, List.length_cons, List.length_nil, Nat.zero_add, Nat.reduceAdd] <;> rfl) ?_
    | refine w_off rfl ?_
    | refine w_rf rfl (by assumption) (by rfl) (by rfl) (by rfl) ?_
    | refine w_rfg rfl rfl (by assumption) (by rfl) (by rfl) (by rfl) (by rfl) ?_
    | refine w_on rfl ?_
    | refine w_len rfl (by assumption) ?_
    | refine w_lssN rfl rfl (fun hc => ?_) (fun hc => ?_)
    | refine w_leqN rfl rfl (fun hc => ?_) (fun hc => ?_)
    | refine w_gtrN rfl rfl (fun hc => ?_) (fun hc => ?_)
    | refine w_geqN rfl rfl (fun hc => ?_) (fun hc => ?_)
    | refine w_eqlN rfl rfl (fun hc => ?_) (fun hc => ?_)
    | refine w_neqN rfl rfl (fun hc => ?_) (fun hc => ?_)
    | refine w_lss rfl rfl (fun hc => ?_) (fun hc => ?_)
    | refine w_leq rfl rfl (fun hc => ?_) (fun hc => ?_)
    | refine w_gtr rfl rfl (fun hc => ?_) (fun hc => ?_)
    | refine w_geq rfl rfl (fun hc => ?_) (fun hc => ?_)
    | refine w_eql rfl rfl (fun hc => ?_) (fun hc => ?_)
    | refine w_neq rfl rfl (fun hc => ?_) (fun hc => ?_)
    | refine w_addN rfl rfl (by omega) ?_
    | refine w_opk rfl rfl ?_
    | refine w_cond_t rfl ?_
    | refine w_cond_f rfl ?_
    | refine w_skip ?_
    | refine w_exit rfl ?_
    | refine w_ret ?_
    | refine w_rt rfl ?_)
  refine w_loadA rfl (hB.at rfl) rfl ?_
  refine w_on rfl ?_
  refine w_call rfl ((great13_ok hO.gr (hb.ext E4)).mono fun v h5 ⟨⟨g, hv⟩, hE5⟩ => ?_)
  subst hv
  replace hA := hA.ext0 hE5
  replace hB := hB.ext0 hE5
  replace hC := hC.ext0 hE5
  have E5 := E4.trans hE5
  cases g with
  | true =>
    repeat' (first
      | refine w_seq ?_
      | refine w_reg ?_
      | refine w_end (by simp only [outsV, nth, setV, List.take_succ_cons, List.take_zero, List.length_cons, List.length_nil, Nat.zero_add, Nat.reduceAdd] <;> rfl) ?_
      | refine w_off rfl ?_
      | refine w_rf rfl (by assumption) (by rfl) (by rfl) (by rfl) ?_
      | refine w_rfg rfl rfl (by assumption) (by rfl) (by rfl) (by rfl) (by rfl) ?_
      | refine w_on rfl ?_
      | refine w_len rfl (by assumption) ?_
      | refine w_lssN rfl rfl (fun hc => ?_) (fun hc => ?_)
      | refine w_leqN rfl rfl (fun hc => ?_) (fun hc => ?_)
      | refine w_gtrN rfl rfl (fun hc => ?_) (fun hc => ?_)
      | refine w_geqN rfl rfl (fun hc => ?_) (fun hc => ?_)
      | refine w_eqlN rfl rfl (fun hc => ?_) (fun hc => ?_)
      | refine w_neqN rfl rfl (fun hc => ?_) (fun hc => ?_)
      | refine w_lss rfl rfl (fun hc => ?_) (fun hc => ?_)
      | refine w_leq rfl rfl (fun hc => ?_) (fun hc => ?_)
      | refine w_gtr rfl rfl (fun hc => ?_) (fun hc => ?_)
      | refine w_geq rfl rfl (fun hc => ?_) (fun hc => ?_)
      | refine w_eql rfl rfl (fun hc => ?_) (fun hc => ?_)
      | refine w_neq rfl rfl (fun hc => ?_) (fun hc => ?_)
      | refine w_addN rfl rfl (by omega) ?_
      | refine w_opk rfl rfl ?_
      | refine w_cond_t rfl ?_
      | refine w_cond_f rfl ?_
      | refine w_skip ?_
      | refine w_exit rfl ?_
      | refine w_ret ?_
      | refine w_rt rfl ?_)
    refine w_aw13 hO ?_
    repeat' (first
      | refine w_seq ?_
      | refine w_reg ?_
      | refine w_end (by simp only [outsV, nth, setV, List.take_succ_cons, List.take_zero, List.length_cons, List.length_nil, Nat.zero_add, Nat.reduceAdd] <;> rfl) ?_
      | refine w_off rfl ?_
      | refine w_rf rfl (by assumption) (by rfl) (by rfl) (by rfl) ?_
      | refine w_rfg rfl rfl (by assumption) (by rfl) (by rfl) (by rfl) (by rfl) ?_
      | refine w_on rfl ?_
      | refine w_len rfl (by assumption) ?_
      | refine w_lssN rfl rfl (fun hc => ?_) (fun hc => ?_)
      | refine w_leqN rfl rfl (fun hc => ?_) (fun hc => ?_)
      | refine w_gtrN rfl rfl (fun hc => ?_) (fun hc => ?_)
      | refine w_geqN rfl rfl (fun hc => ?_) (fun hc => ?_)
      | refine w_eqlN rfl rfl (fun hc => ?_) (fun hc => ?_)
      | refine w_neqN rfl rfl (fun hc => ?_) (fun hc => ?_)
      | refine w_lss rfl rfl (fun hc => ?_) (fun hc => ?_)
      | refine w_leq rfl rfl (fun hc => ?_) (fun hc => ?_)
      | refine w_gtr rfl rfl (fun hc => ?_) (fun hc => ?_)
      | refine w_geq rfl rfl (fun hc => ?_) (fun hc => ?_)
      | refine w_eql rfl rfl (fun hc => ?_) (fun hc => ?_)
      | refine w_neq rfl rfl (fun hc => ?_) (fun hc => ?_)
      | refine w_addN rfl rfl (by omega) ?_
      | refine w_opk rfl rfl ?_
      | refine w_cond_t rfl ?_
      | refine w_cond_f rfl ?_
      | refine w_skip ?_
      | refine w_exit rfl ?_
      | refine w_ret ?_
      | refine w_rt rfl ?_)
    rfl
  | false =>
  repeat' (first
    | refine w_seq ?_
    | refine w_reg ?_
    | refine w_end (by simp only [outsV, nth, setV, List.take_succ_cons, List.take_zero, List.length_cons, List.length_nil, Nat.zero_add, Nat.reduceAdd] <;> rfl) ?_
    | refine w_off rfl ?_
    | refine w_rf rfl (by assumption) (by rfl) (by rfl) (by rfl) ?_
    | refine w_rfg rfl rfl (by assumption) (by rfl) (by rfl) (by rfl) (by rfl) ?_
    | refine w_on rfl ?_
    | refine w_len rfl (by assumption) ?_
    | refine w_lssN rfl rfl (fun hc => ?_) (fun hc => ?_)
    | refine w_leqN rfl rfl (fun hc => ?_) (fun hc => ?_)
    | refine w_gtrN rfl rfl (fun hc => ?_) (fun hc => ?_)
    | refine w_geqN rfl rfl (fun hc => ?_) (fun hc => ?_)
    | refine w_eqlN rfl rfl (fun hc => ?_) (fun hc => ?_)
    | refine w_neqN rfl rfl (fun hc => ?_) (fun hc => ?_)
    | refine w_lss rfl rfl (fun hc => ?_) (fun hc => ?_)
    | refine w_leq rfl rfl (fun hc => ?_) (fun hc => ?_)
    | refine w_gtr rfl rfl (fun hc => ?_) (fun hc => ?_)
    | refine w_geq rfl rfl (fun hc => ?_) (fun hc => ?_)
    | refine w_eql rfl rfl (fun hc => ?_) (fun hc => ?_)
    | refine w_neq rfl rfl (fun hc => ?_) (fun hc => ?_)
    | refine w_addN rfl rfl (by omega) ?_
    | refine w_opk rfl rfl ?_
    | refine w_cond_t rfl ?_
    | refine w_cond_f rfl ?_
    | refine w_skip ?_
    | refine w_exit rfl ?_
    | refine w_ret ?_
    | refine w_rt rfl ?_)
  refine w_loadA rfl (hC.at rfl) rfl ?_
  refine w_on rfl ?_
  refine w_call rfl ((great13_ok hO.gr (hc.ext E5)).mono fun v h6 ⟨⟨g, hv⟩, hE6⟩ => ?_)
  subst hv
  replace hA := hA.ext0 hE6
  replace hB := hB.ext0 hE6
  replace hC := hC.ext0 hE6
  have E6 := E5.trans hE6
  cases g with
  | true =>
    repeat' (first
      | refine w_seq ?_
      | refine w_reg ?_
      | refine w_end (by simp only [outsV, nth, setV, List.take_succ_cons, List.take_zero, List.length_cons, List.length_nil, Nat.zero_add, Nat.reduceAdd] <;> rfl) ?_
      | refine w_off rfl ?_
      | refine w_rf rfl (by assumption) (by rfl) (by rfl) (by rfl) ?_
      | refine w_rfg rfl rfl (by assumption) (by rfl) (by rfl) (by rfl) (by rfl) ?_
      | refine w_on rfl ?_
      | refine w_len rfl (by assumption) ?_
      | refine w_lssN rfl rfl (fun hc => ?_) (fun hc => ?_)
      | refine w_leqN rfl rfl (fun hc => ?_) (fun hc => ?_)
      | refine w_gtrN rfl rfl (fun hc => ?_) (fun hc => ?_)
      | refine w_geqN rfl rfl (fun hc => ?_) (fun hc => ?_)
      | refine w_eqlN rfl rfl (fun hc => ?_) (fun hc => ?_)
      | refine w_neqN rfl rfl (fun hc => ?_) (fun hc => ?_)
      | refine w_lss rfl rfl (fun hc => ?_) (fun hc => ?_)
      | refine w_leq rfl rfl (fun hc => ?_) (fun hc => ?_)
      | refine w_gtr rfl rfl (fun hc => ?_) (fun hc => ?_)
      | refine w_geq rfl rfl (fun hc => ?_) (fun hc => ?_)
      | refine w_eql rfl rfl (fun hc => ?_) (fun hc => ?_)
      | refine w_neq rfl rfl (fun hc => ?_) (fun hc => ?_)
      | refine w_addN rfl rfl (by omega) ?_
      | refine w_opk rfl rfl ?_
      | refine w_cond_t rfl ?_
      | refine w_cond_f rfl ?_
      | refine w_skip ?_
      | refine w_exit rfl ?_
      | refine w_ret ?_
      | refine w_rt rfl ?_)
    refine w_aw13 hO ?_
    repeat' (first
      | refine w_seq ?_
      | refine w_reg ?_
      | refine w_end (by simp only [outsV, nth, setV, List.take_succ_cons, List.take_zero, List.length_cons, List.length_nil, Nat.zero_add, Nat.reduceAdd] <;> rfl) ?_
      | refine w_off rfl ?_
      | refine w_rf rfl (by assumption) (by rfl) (by rfl) (by rfl) ?_
      | refine w_rfg rfl rfl (by assumption) (by rfl) (by rfl) (by rfl) (by rfl) ?_
      | refine w_on rfl ?_
      | refine w_len rfl (by assumption) ?_
      | refine w_lssN rfl rfl (fun hc => ?_) (fun hc => ?_)
      | refine w_leqN rfl rfl (fun hc => ?_) (fun hc => ?_)
      | refine w_gtrN rfl rfl (fun hc => ?_) (fun hc => ?_)
      | refine w_geqN rfl rfl (fun hc => ?_) (fun hc => ?_)
      | refine w_eqlN rfl rfl (fun hc => ?_) (fun hc => ?_)
      | refine w_neqN rfl rfl (fun hc => ?_) (fun hc => ?_)
      | refine w_lss rfl rfl (fun hc => ?_) (fun hc => ?_)
      | refine w_leq rfl rfl (fun hc => ?_) (fun hc => ?_)
      | refine w_gtr rfl rfl (fun hc => ?_) (fun hc => ?_)
      | refine w_geq rfl rfl (fun hc => ?_) (fun hc => ?_)
      | refine w_eql rfl rfl (fun hc => ?_) (fun hc => ?_)
      | refine w_neq rfl rfl (fun hc => ?_) (fun hc => ?_)
      | refine w_addN rfl rfl (by omega) ?_
      | refine w_opk rfl rfl ?_
      | refine w_cond_t rfl ?_
      | refine w_cond_f rfl ?_
      | refine w_skip ?_
      | refine w_exit rfl ?_
      | refine w_ret ?_
      | refine w_rt rfl ?_)
    rfl
  | false =>
  clear hE4 hE5 hE6
  repeat' (first
    | refine w_seq ?_
    | refine w_reg ?_
    | refine w_end (by simp only [outsV, nth, setV, List.take_succ_cons, List.take_zero, List.length_cons, List.length_nil, Nat.zero_add, Nat.reduceAdd] <;> rfl) ?_
    | refine w_off rfl ?_
    | refine w_rf rfl (by assumption) (by rfl) (by rfl) (by rfl) ?_
    | refine w_rfg rfl rfl (by assumption) (by rfl) (by rfl) (by rfl) (by rfl) ?_
    | refine w_on rfl ?_
    | refine w_len rfl (by assumption) ?_
    | refine w_lssN rfl rfl (fun hc => ?_) (fun hc => ?_)
    | refine w_leqN rfl rfl (fun hc => ?_) (fun hc => ?_)
    | refine w_gtrN rfl rfl (fun hc => ?_) (fun hc => ?_)
    | refine w_geqN rfl rfl (fun hc => ?_) (fun hc => ?_)
    | refine w_eqlN rfl rfl (fun hc => ?_) (fun hc => ?_)
    | refine w_neqN rfl rfl (fun hc => ?_) (fun hc => ?_)
    | refine w_lss rfl rfl (fun hc => ?_) (fun hc => ?_)
    | refine w_leq rfl rfl (fun hc => ?_) (fun hc => ?_)
    | refine w_gtr rfl rfl (fun hc => ?_) (fun hc => ?_)
    | refine w_geq rfl rfl (fun hc => ?_) (fun hc => ?_)
    | refine w_eql rfl rfl (fun hc => ?_) (fun hc => ?_)
    | refine w_neq rfl rfl (fun hc => ?_) (fun hc => ?_)
    | refine w_addN rfl rfl (by omega) ?_
    | refine w_opk rfl rfl ?_
    | refine w_cond_t rfl ?_
    | refine w_cond_f rfl ?_
    | refine w_skip ?_
    | refine w_exit rfl ?_
    | refine w_ret ?_
    | refine w_rt rfl ?_)
  refine w_loadA rfl (hA.at rfl) rfl ?_
  refine w_loadA rfl (hB.at rfl) rfl ?_
  refine w_loadA rfl (hC.at rfl) rfl ?_
  refine w_loadA rfl (hA.at rfl) rfl ?_
  refine w_loadA rfl (hB.at rfl) rfl ?_
  refine w_loadA rfl (hC.at rfl) rfl ?_
  refine w_alloc fun i1 h7 hX hi1 hE7 => ?_
  refine w_snapP rfl hX ?_
  refine w_alloc fun i2 h8 hY hi2 hE8 => ?_
  refine w_snapP rfl hY ?_
  have hXl := hX.1
  have hYl := hY.1
  have E8 := (E6.trans hE7).trans hE8
  have hAl := hA.1
  have hBl := hB.1
  have hCl := hC.1
  have hE7n := hE7.1
  replace hA := (hA.ext0 hE7).ext0 hE8
  replace hB := (hB.ext0 hE7).ext0 hE8
  replace hC := (hC.ext0 hE7).ext0 hE8
  replace hX := hX.ext0 hE8
  clear hE7 hE8
  refine w_call rfl ((add_ok hO.toOffAdd (ha.ext E8) (hb.ext E8)).mono fun w h9 ⟨⟨ab, hw, hab⟩, hE9⟩ => ?_)
  subst hw
  replace hA := hA.ext0 hE9
  replace hB := hB.ext0 hE9
  replace hC := hC.ext0 hE9
  replace hX := hX.ext0 hE9
  replace hY := hY.ext0 hE9
  have E9 := E8.trans hE9
  refine w_chkObjP rfl rfl hY ?_
  refine w_chkObjP rfl rfl hX ?_
  refine w_chkA rfl rfl (hC.at rfl) (by simp [V.cells]) (V.beqL_refl _) ?_
  refine w_chkA rfl rfl (hB.at rfl) (by simp [V.cells]) (V.beqL_refl _) ?_
  refine w_chkA rfl rfl (hA.at rfl) (by simp [V.cells]) (V.beqL_refl _) ?_
  refine w_chkA rfl rfl (hC.at rfl) (by simp [V.cells]) (V.beqL_refl _) ?_
  refine w_call rfl ((add_ok hO.toOffAdd hab.prof (hc.ext E9)).mono fun w h10 ⟨⟨one, hw, hone⟩, hE10⟩ => ?_)
  subst hw
  replace hA := hA.ext0 hE10
  replace hB := hB.ext0 hE10
  replace hC := hC.ext0 hE10
  replace hX := hX.ext0 hE10
  replace hY := hY.ext0 hE10
  have E10 := E9.trans hE10
  refine w_chkObjP rfl rfl hY ?_
  refine w_chkObjP rfl rfl hX ?_
  refine w_chkA rfl rfl (hC.at rfl) (by simp [V.cells]) (V.beqL_refl _) ?_
  refine w_chkA rfl rfl (hB.at rfl) (by simp [V.cells]) (V.beqL_refl _) ?_
  refine w_chkA rfl rfl (hA.at rfl) (by simp [V.cells]) (V.beqL_refl _) ?_
  refine w_call rfl ((add_ok hO.toOffAdd (hb.ext E10) (hc.ext E10)).mono fun w h11 ⟨⟨bc, hw, hbc⟩, hE11⟩ => ?_)
  subst hw
  replace hone := hone.ext0 hE11
  replace hA := hA.ext0 hE11
  replace hB := hB.ext0 hE11
  replace hC := hC.ext0 hE11
  replace hX := hX.ext0 hE11
  replace hY := hY.ext0 hE11
  have E11 := E10.trans hE11
  refine w_chkObjP rfl rfl hY ?_
  refine w_chkObjP rfl rfl hX ?_
  refine w_chkA rfl rfl (hA.at rfl) (by simp [V.cells]) (V.beqL_refl _) ?_
  refine w_call rfl ((add_ok hO.toOffAdd (ha.ext E11) hbc.prof).mono fun w h12 ⟨⟨two, hw, htwo⟩, hE12⟩ => ?_)
  subst hw
  replace hone := hone.ext0 hE12
  replace hA := hA.ext0 hE12
  replace hB := hB.ext0 hE12
  replace hC := hC.ext0 hE12
  replace hX := hX.ext0 hE12
  replace hY := hY.ext0 hE12
  have E12 := E11.trans hE12
  refine w_chkObjP rfl rfl hY ?_
  refine w_chkObjP rfl rfl hX ?_
  have n9 := E9.1
  have n12 := hE12.1
  have n11 := hE11.1
  have n10 := hE10.1
  have n99 := hE9.1
  clear hE9 hE10 hE11
  refine w_store rfl rfl hX rfl hone.prof.one (by decide) (by simp) fun h13 hX2 hE13 hn13 => ?_
  have hX8 := hX.1
  have hY8 := hYl
  have hY13 := hY.ext hE13 (by simp; omega)
  refine w_store rfl rfl hY13 rfl htwo.prof.one (by decide) (by simp) fun h14 hY2 hE14 hn14 => ?_
  replace hX2 : Own h13 i1 [one] := hX2
  replace hY2 : Own h14 i2 [two] := hY2
  have hX14 := hX2.ext hE14 (by simp; omega)
  have hone14 := ((hone.ext hE13 (by simp; omega)).ext hE14 (by simp; omega)).prof
  have htwo14 := ((htwo.ext hE13 (by simp; omega)).ext hE14 (by simp; omega)).prof
  rw [← addP_assoc] at htwo14
  have hA14 := (hA.ext hE13 (by simp; omega)).ext hE14 (by simp; omega)
  have hB14 := (hB.ext hE13 (by simp; omega)).ext hE14 (by simp; omega)
  have E14 : Ext h0 h14 := (E12.step hE13 fun jd hjd => by simp at hjd; exact .inr (by omega)).step hE14 fun jd hjd => by simp at hjd; exact .inr (by omega)
  clear hE13 hE14 hE12 hX hY hone htwo hab hbc hA hB hC hX2 hY13
  repeat' (first
    | refine w_seq ?_
    | refine w_reg ?_
    | refine w_end (by simp only [outsV, nth, setV, List.take_succ_cons, List.take_zero, List.length_cons, List.length_nil, Nat.zero_add, Nat.reduceAdd] <;> rfl) ?_
    | refine w_off rfl ?_
    | refine w_rf rfl (by assumption) (by rfl) (by rfl) (by rfl) ?_
    | refine w_rfg rfl rfl (by assumption) (by rfl) (by rfl) (by rfl) (by rfl) ?_
    | refine w_on rfl ?_
    | refine w_len rfl (by assumption) ?_
    | refine w_lssN rfl rfl (fun hc => ?_) (fun hc => ?_)
    | refine w_leqN rfl rfl (fun hc => ?_) (fun hc => ?_)
    | refine w_gtrN rfl rfl (fun hc => ?_) (fun hc => ?_)
    | refine w_geqN rfl rfl (fun hc => ?_) (fun hc => ?_)
    | refine w_eqlN rfl rfl (fun hc => ?_) (fun hc => ?_)
    | refine w_neqN rfl rfl (fun hc => ?_) (fun hc => ?_)
    | refine w_lss rfl rfl (fun hc => ?_) (fun hc => ?_)
    | refine w_leq rfl rfl (fun hc => ?_) (fun hc => ?_)
    | refine w_gtr rfl rfl (fun hc => ?_) (fun hc => ?_)
    | refine w_geq rfl rfl (fun hc => ?_) (fun hc => ?_)
    | refine w_eql rfl rfl (fun hc => ?_) (fun hc => ?_)
    | refine w_neq rfl rfl (fun hc => ?_) (fun hc => ?_)
    | refine w_addN rfl rfl (by omega) ?_
    | refine w_opk rfl rfl ?_
    | refine w_cond_t rfl ?_
    | refine w_cond_f rfl ?_
    | refine w_skip ?_
    | refine w_exit rfl ?_
    | refine w_ret ?_
    | refine w_rt rfl ?_)
  refine w_loadA rfl (hX14.at rfl) rfl ?_
  refine w_loadA rfl (hY2.at rfl) rfl ?_
  refine w_call rfl ((same13_ok hO.sm hone14 htwo14).mono fun v h15 ⟨hv, hE15⟩ => ?_)
  subst hv
  replace hA14 := hA14.ext0 hE15
  replace hB14 := hB14.ext0 hE15
  have E15 := E14.trans hE15
  repeat' (first
    | refine w_seq ?_
    | refine w_reg ?_
    | refine w_end (by simp only [outsV, nth, setV, List.take_succ_cons, List.take_zero, List.length_cons, List.length_nil, Nat.zero_add, Nat.reduceAdd] <;> rfl) ?_
    | refine w_off rfl ?_
    | refine w_rf rfl (by assumption) (by rfl) (by rfl) (by rfl) ?_
    | refine w_rfg rfl rfl (by assumption) (by rfl) (by rfl) (by rfl) (by rfl) ?_
    | refine w_on rfl ?_
    | refine w_len rfl (by assumption) ?_
    | refine w_lssN rfl rfl (fun hc => ?_) (fun hc => ?_)
    | refine w_leqN rfl rfl (fun hc => ?_) (fun hc => ?_)
    | refine w_gtrN rfl rfl (fun hc => ?_) (fun hc => ?_)
    | refine w_geqN rfl rfl (fun hc => ?_) (fun hc => ?_)
    | refine w_eqlN rfl rfl (fun hc => ?_) (fun hc => ?_)
    | refine w_neqN rfl rfl (fun hc => ?_) (fun hc => ?_)
    | refine w_lss rfl rfl (fun hc => ?_) (fun hc => ?_)
    | refine w_leq rfl rfl (fun hc => ?_) (fun hc => ?_)
    | refine w_gtr rfl rfl (fun hc => ?_) (fun hc => ?_)
    | refine w_geq rfl rfl (fun hc => ?_) (fun hc => ?_)
    | refine w_eql rfl rfl (fun hc => ?_) (fun hc => ?_)
    | refine w_neq rfl rfl (fun hc => ?_) (fun hc => ?_)
    | refine w_addN rfl rfl (by omega) ?_
    | refine w_opk rfl rfl ?_
    | refine w_cond_t rfl ?_
    | refine w_cond_f rfl ?_
    | refine w_skip ?_
    | refine w_exit rfl ?_
    | refine w_ret ?_
    | refine w_rt rfl ?_)
  refine w_loadA rfl (hA14.at rfl) rfl ?_
  refine w_on rfl ?_
  refine w_build [.nils] rfl (by rfl) ?_
  refine w_on rfl ?_
  refine w_build [.nils] rfl (by rfl) ?_
  refine w_on rfl ?_
  refine w_loadA rfl (hA14.at rfl) rfl ?_
  refine w_on rfl ?_
  have hnil : ∀ h, ProfR h .nils [] := fun h => ⟨[], RS.nils _ _, rfl, by simp, fun i x s hx => by simp at hx⟩
  refine w_call rfl ((add_ok hO.toOffAdd (ha.ext E15) (hnil _)).mono fun w h16 ⟨⟨an, hw, han⟩, hE16⟩ => ?_)
  subst hw
  replace hA14 := hA14.ext0 hE16
  replace hB14 := hB14.ext0 hE16
  have E16 := E15.trans hE16
  refine w_on rfl (w_chkA rfl rfl (hA14.at rfl) (by simp [V.cells]) (V.beqL_refl _) ?_)
  refine w_on rfl ?_
  refine w_call rfl ((add_ok hO.toOffAdd (hnil _) (ha.ext E16)).mono fun w h17 ⟨⟨na, hw, hna⟩, hE17⟩ => ?_)
  subst hw
  replace hA14 := hA14.ext0 hE17
  replace hB14 := hB14.ext0 hE17
  have E17 := E16.trans hE17
  have han17 := (han.ext0 hE17).prof
  have hna17 := hna.prof
  rw [← addP_nil] at hna17
  refine w_on rfl ?_
  refine w_call rfl ((same13_ok hO.sm han17 hna17).mono fun v h18 ⟨hv, hE18⟩ => ?_)
  subst hv
  replace hA14 := hA14.ext0 hE18
  replace hB14 := hB14.ext0 hE18
  have E18 := E17.trans hE18
  clear hone14 htwo14 han hna han17 hna17 hX14 hY2
  repeat' (first
    | refine w_seq ?_
    | refine w_reg ?_
    | refine w_end (by simp only [outsV, nth, setV, List.take_succ_cons, List.take_zero, List.length_cons, List.length_nil, Nat.zero_add, Nat.reduceAdd] <;> rfl) ?_
    | refine w_off rfl ?_
    | refine w_rf rfl (by assumption) (by rfl) (by rfl) (by rfl) ?_
    | refine w_rfg rfl rfl (by assumption) (by rfl) (by rfl) (by rfl) (by rfl) ?_
    | refine w_on rfl ?_
    | refine w_len rfl (by assumption) ?_
    | refine w_lssN rfl rfl (fun hc => ?_) (fun hc => ?_)
    | refine w_leqN rfl rfl (fun hc => ?_) (fun hc => ?_)
    | refine w_gtrN rfl rfl (fun hc => ?_) (fun hc => ?_)
    | refine w_geqN rfl rfl (fun hc => ?_) (fun hc => ?_)
    | refine w_eqlN rfl rfl (fun hc => ?_) (fun hc => ?_)
    | refine w_neqN rfl rfl (fun hc => ?_) (fun hc => ?_)
    | refine w_lss rfl rfl (fun hc => ?_) (fun hc => ?_)
    | refine w_leq rfl rfl (fun hc => ?_) (fun hc => ?_)
    | refine w_gtr rfl rfl (fun hc => ?_) (fun hc => ?_)
    | refine w_geq rfl rfl (fun hc => ?_) (fun hc => ?_)
    | refine w_eql rfl rfl (fun hc => ?_) (fun hc => ?_)
    | refine w_neq rfl rfl (fun hc => ?_) (fun hc => ?_)
    | refine w_addN rfl rfl (by omega) ?_
    | refine w_opk rfl rfl ?_
    | refine w_cond_t rfl ?_
    | refine w_cond_f rfl ?_
    | refine w_skip ?_
    | refine w_exit rfl ?_
    | refine w_ret ?_
    | refine w_rt rfl ?_)
  refine w_loadA rfl (hA14.at rfl) rfl ?_
  refine w_loadA rfl (hB14.at rfl) rfl ?_
  refine w_call rfl ((add_ok hO.toOffAdd (ha.ext E18) (hb.ext E18)).mono fun w h19 ⟨⟨sv, hw, hsv⟩, hE19⟩ => ?_)
  subst hw
  replace hA14 := hA14.ext0 hE19
  replace hB14 := hB14.ext0 hE19
  have E19 := E18.trans hE19
  refine w_new (fun _ => rfl) rfl rfl hsv.prof.one fun i11 h20 hS hi11 hE20 => ?_
  replace hS : Own h20 i11 [sv] := hS
  replace hA20 := hA14.ext0 hE20
  replace hB20 := hB14.ext0 hE20
  have E20 := E19.trans hE20
  have hsv20 := (hsv.ext0 hE20).prof
  have ha20 := ha.ext E20
  have hb20 := hb.ext E20
  obtain ⟨ls, rs, es, bs, ss⟩ := hsv20
  obtain ⟨la, ra, ea, ba, sa⟩ := ha20
  obtain ⟨lb, rb, eb, bb, sb⟩ := hb20
  replace hA20 : Own h20 iA [a] := hA20
  replace hB20 : Own h20 iB [b] := hB20
  clear hA14 hB14
  repeat' (first
    | refine w_seq ?_
    | refine w_reg ?_
    | refine w_end (by simp only [outsV, nth, setV, List.take_succ_cons, List.take_zero, List.length_cons, List.length_nil, Nat.zero_add, Nat.reduceAdd] <;> rfl) ?_
    | refine w_off rfl ?_
    | refine w_rf rfl (by assumption) (by rfl) (by rfl) (by rfl) ?_
    | refine w_rfg rfl rfl (by assumption) (by rfl) (by rfl) (by rfl) (by rfl) ?_
    | refine w_on rfl ?_
    | refine w_len rfl (by assumption) ?_
    | refine w_lssN rfl rfl (fun hc => ?_) (fun hc => ?_)
    | refine w_leqN rfl rfl (fun hc => ?_) (fun hc => ?_)
    | refine w_gtrN rfl rfl (fun hc => ?_) (fun hc => ?_)
    | refine w_geqN rfl rfl (fun hc => ?_) (fun hc => ?_)
    | refine w_eqlN rfl rfl (fun hc => ?_) (fun hc => ?_)
    | refine w_neqN rfl rfl (fun hc => ?_) (fun hc => ?_)
    | refine w_lss rfl rfl (fun hc => ?_) (fun hc => ?_)
    | refine w_leq rfl rfl (fun hc => ?_) (fun hc => ?_)
    | refine w_gtr rfl rfl (fun hc => ?_) (fun hc => ?_)
    | refine w_geq rfl rfl (fun hc => ?_) (fun hc => ?_)
    | refine w_eql rfl rfl (fun hc => ?_) (fun hc => ?_)
    | refine w_neq rfl rfl (fun hc => ?_) (fun hc => ?_)
    | refine w_addN rfl rfl (by omega) ?_
    | refine w_opk rfl rfl ?_
    | refine w_cond_t rfl ?_
    | refine w_cond_f rfl ?_
    | refine w_skip ?_
    | refine w_exit rfl ?_
    | refine w_ret ?_
    | refine w_rt rfl ?_)
  refine w_count (fun i vs h => h20 = h ∧ ∃ c14 c15 c16, vs = [.agg [a], .agg [b], .agg [c], .bool false, .ptr iA 0 0 1, .ptr iB 0 0 1, .ptr iC 0 0 1, .bool false, .ptr i1 0 0 1, .ptr i2 0 0 1, .bool (!true), .ptr i11 0 0 1, .int .i64 (.ofNat i), .int .i64 (.ofNat ls.length), c14, c15, c16]) ls.length ⟨rfl, _, _, _, rfl⟩ ?_
  rintro i vs h hi ⟨rfl, c14, c15, c16, rfl⟩
  repeat' (first
    | refine w_seq ?_
    | refine w_reg ?_
    | refine w_end (by simp only [outsV, nth, setV, List.take_succ_cons, List.take_zero, List.length_cons, List.length_nil, Nat.zero_add, Nat.reduceAdd] <;> rfl) ?_
    | refine w_off rfl ?_
    | refine w_rf rfl (by assumption) (by rfl) (by rfl) (by rfl) ?_
    | refine w_rfg rfl rfl (by assumption) (by rfl) (by rfl) (by rfl) (by rfl) ?_
    | refine w_on rfl ?_
    | refine w_len rfl (by assumption) ?_
    | refine w_lssN rfl rfl (fun hc => ?_) (fun hc => ?_)
    | refine w_leqN rfl rfl (fun hc => ?_) (fun hc => ?_)
    | refine w_gtrN rfl rfl (fun hc => ?_) (fun hc => ?_)
    | refine w_geqN rfl rfl (fun hc => ?_) (fun hc => ?_)
    | refine w_eqlN rfl rfl (fun hc => ?_) (fun hc => ?_)
    | refine w_neqN rfl rfl (fun hc => ?_) (fun hc => ?_)
    | refine w_lss rfl rfl (fun hc => ?_) (fun hc => ?_)
    | refine w_leq rfl rfl (fun hc => ?_) (fun hc => ?_)
    | refine w_gtr rfl rfl (fun hc => ?_) (fun hc => ?_)
    | refine w_geq rfl rfl (fun hc => ?_) (fun hc => ?_)
    | refine w_eql rfl rfl (fun hc => ?_) (fun hc => ?_)
    | refine w_neq rfl rfl (fun hc => ?_) (fun hc => ?_)
    | refine w_addN rfl rfl (by omega) ?_
    | refine w_opk rfl rfl ?_
    | refine w_cond_t rfl ?_
    | refine w_cond_f rfl ?_
    | refine w_skip ?_
    | refine w_exit rfl ?_
    | refine w_ret ?_
    | refine w_rt rfl ?_)
  · refine w_block ?_
    repeat' (first
      | refine w_seq ?_
      | refine w_reg ?_
      | refine w_end (by simp only [outsV, nth, setV, List.take_succ_cons, List.take_zero, List.length_cons, List.length_nil, Nat.zero_add, Nat.reduceAdd] <;> rfl) ?_
      | refine w_off rfl ?_
      | refine w_rf rfl (by assumption) (by rfl) (by rfl) (by rfl) ?_
      | refine w_rfg rfl rfl (by assumption) (by rfl) (by rfl) (by rfl) (by rfl) ?_
      | refine w_on rfl ?_
      | refine w_len rfl (by assumption) ?_
      | refine w_lssN rfl rfl (fun hc => ?_) (fun hc => ?_)
      | refine w_leqN rfl rfl (fun hc => ?_) (fun hc => ?_)
      | refine w_gtrN rfl rfl (fun hc => ?_) (fun hc => ?_)
      | refine w_geqN rfl rfl (fun hc => ?_) (fun hc => ?_)
      | refine w_eqlN rfl rfl (fun hc => ?_) (fun hc => ?_)
      | refine w_neqN rfl rfl (fun hc => ?_) (fun hc => ?_)
      | refine w_lss rfl rfl (fun hc => ?_) (fun hc => ?_)
      | refine w_leq rfl rfl (fun hc => ?_) (fun hc => ?_)
      | refine w_gtr rfl rfl (fun hc => ?_) (fun hc => ?_)
      | refine w_geq rfl rfl (fun hc => ?_) (fun hc => ?_)
      | refine w_eql rfl rfl (fun hc => ?_) (fun hc => ?_)
      | refine w_neq rfl rfl (fun hc => ?_) (fun hc => ?_)
      | refine w_addN rfl rfl (by omega) ?_
      | refine w_opk rfl rfl ?_
      | refine w_cond_t rfl ?_
      | refine w_cond_f rfl ?_
      | refine w_skip ?_
      | refine w_exit rfl ?_
      | refine w_ret ?_
      | refine w_rt rfl ?_)
    · have hi1 : i < ls.length := by assumption
      have hi2 : i < la.length := by assumption
      have hi3 : i < (addP P Q).length := by omega
      have hi4 : i < P.length := by omega
      have hri := List.getElem?_eq_getElem hi3
      have hsi := List.getElem?_eq_getElem hi4
      obtain ⟨t1, e1, r1, _⟩ := ss i ls[i] _ (List.getElem?_eq_getElem hi1) hri
      obtain ⟨t2, e2, r2, _⟩ := sa i la[i] _ (List.getElem?_eq_getElem hi2) hsi
      have hle := count_ok hri hsi
      have hrg := count_range hri
      generalize (addP P Q)[i] = r at *
      generalize P[i] = s at *
      have hS1 := slot_at rs hi1
      rw [e1] at hS1
      have hS2 := slot_at ra hi2
      rw [e2] at hS2
      refine w_iadrS rfl rfl rs hi1 ?_
      refine w_on rfl (w_fadr rfl hS1 rfl fun hS10 => ?_)
      refine w_on rfl (w_load1 rfl hS10 rfl ?_)
      repeat' (first
        | refine w_seq ?_
        | refine w_reg ?_
        | refine w_end (by simp only [outsV, nth, setV, List.take_succ_cons, List.take_zero, List.length_cons, List.length_nil, Nat.zero_add, Nat.reduceAdd] <;> rfl) ?_
        | refine w_off rfl ?_
        | refine w_rf rfl (by assumption) (by rfl) (by rfl) (by rfl) ?_
        | refine w_rfg rfl rfl (by assumption) (by rfl) (by rfl) (by rfl) (by rfl) ?_
        | refine w_on rfl ?_
        | refine w_len rfl (by assumption) ?_
        | refine w_lssN rfl rfl (fun hc => ?_) (fun hc => ?_)
        | refine w_leqN rfl rfl (fun hc => ?_) (fun hc => ?_)
        | refine w_gtrN rfl rfl (fun hc => ?_) (fun hc => ?_)
        | refine w_geqN rfl rfl (fun hc => ?_) (fun hc => ?_)
        | refine w_eqlN rfl rfl (fun hc => ?_) (fun hc => ?_)
        | refine w_neqN rfl rfl (fun hc => ?_) (fun hc => ?_)
        | refine w_lss rfl rfl (fun hc => ?_) (fun hc => ?_)
        | refine w_leq rfl rfl (fun hc => ?_) (fun hc => ?_)
        | refine w_gtr rfl rfl (fun hc => ?_) (fun hc => ?_)
        | refine w_geq rfl rfl (fun hc => ?_) (fun hc => ?_)
        | refine w_eql rfl rfl (fun hc => ?_) (fun hc => ?_)
        | refine w_neq rfl rfl (fun hc => ?_) (fun hc => ?_)
        | refine w_addN rfl rfl (by omega) ?_
        | refine w_opk rfl rfl ?_
        | refine w_cond_t rfl ?_
        | refine w_cond_f rfl ?_
        | refine w_skip ?_
        | refine w_exit rfl ?_
        | refine w_ret ?_
        | refine w_rt rfl ?_)
      refine w_iadrS rfl rfl ra hi2 ?_
      refine w_on rfl (w_fadr rfl hS2 rfl fun hS20 => ?_)
      refine w_on rfl (w_load1 rfl hS20 rfl ?_)
      refine w_on rfl ?_
      refine w_op (v := .int .i64 (if 1099511627776 < s.1 then 1099511627776 else s.1)) (h1 := h20) rfl ?_
      repeat' (first
        | refine w_seq ?_
        | refine w_reg ?_
        | refine w_end (by simp only [outsV, nth, setV, List.take_succ_cons, List.take_zero, List.length_cons, List.length_nil, Nat.zero_add, Nat.reduceAdd] <;> rfl) ?_
        | refine w_off rfl ?_
        | refine w_rf rfl (by assumption) (by rfl) (by rfl) (by rfl) ?_
        | refine w_rfg rfl rfl (by assumption) (by rfl) (by rfl) (by rfl) (by rfl) ?_
        | refine w_on rfl ?_
        | refine w_len rfl (by assumption) ?_
        | refine w_lssN rfl rfl (fun hc => ?_) (fun hc => ?_)
        | refine w_leqN rfl rfl (fun hc => ?_) (fun hc => ?_)
        | refine w_gtrN rfl rfl (fun hc => ?_) (fun hc => ?_)
        | refine w_geqN rfl rfl (fun hc => ?_) (fun hc => ?_)
        | refine w_eqlN rfl rfl (fun hc => ?_) (fun hc => ?_)
        | refine w_neqN rfl rfl (fun hc => ?_) (fun hc => ?_)
        | refine w_lss rfl rfl (fun hc => ?_) (fun hc => ?_)
        | refine w_leq rfl rfl (fun hc => ?_) (fun hc => ?_)
        | refine w_gtr rfl rfl (fun hc => ?_) (fun hc => ?_)
        | refine w_geq rfl rfl (fun hc => ?_) (fun hc => ?_)
        | refine w_eql rfl rfl (fun hc => ?_) (fun hc => ?_)
        | refine w_neq rfl rfl (fun hc => ?_) (fun hc => ?_)
        | refine w_addN rfl rfl (by omega) ?_
        | refine w_opk rfl rfl ?_
        | refine w_cond_t rfl ?_
        | refine w_cond_f rfl ?_
        | refine w_skip ?_
        | refine w_exit rfl ?_
        | refine w_ret ?_
        | refine w_rt rfl ?_)
      · exact absurd hc (by show ¬ r.1 < _; omega)
      refine w_iadrS rfl rfl rs hi1 ?_
      refine w_on rfl (w_fadr rfl hS1 rfl fun hS10 => ?_)
      refine w_on rfl (w_load1 rfl hS10 rfl ?_)
      repeat' (first
        | refine w_seq ?_
        | refine w_reg ?_
        | refine w_end (by simp only [outsV, nth, setV, List.take_succ_cons, List.take_zero, List.length_cons, List.length_nil, Nat.zero_add, Nat.reduceAdd] <;> rfl) ?_
        | refine w_off rfl ?_
        | refine w_rf rfl (by assumption) (by rfl) (by rfl) (by rfl) ?_
        | refine w_rfg rfl rfl (by assumption) (by rfl) (by rfl) (by rfl) (by rfl) ?_
        | refine w_on rfl ?_
        | refine w_len rfl (by assumption) ?_
        | refine w_lssN rfl rfl (fun hc => ?_) (fun hc => ?_)
        | refine w_leqN rfl rfl (fun hc => ?_) (fun hc => ?_)
        | refine w_gtrN rfl rfl (fun hc => ?_) (fun hc => ?_)
        | refine w_geqN rfl rfl (fun hc => ?_) (fun hc => ?_)
        | refine w_eqlN rfl rfl (fun hc => ?_) (fun hc => ?_)
        | refine w_neqN rfl rfl (fun hc => ?_) (fun hc => ?_)
        | refine w_lss rfl rfl (fun hc => ?_) (fun hc => ?_)
        | refine w_leq rfl rfl (fun hc => ?_) (fun hc => ?_)
        | refine w_gtr rfl rfl (fun hc => ?_) (fun hc => ?_)
        | refine w_geq rfl rfl (fun hc => ?_) (fun hc => ?_)
        | refine w_eql rfl rfl (fun hc => ?_) (fun hc => ?_)
        | refine w_neq rfl rfl (fun hc => ?_) (fun hc => ?_)
        | refine w_addN rfl rfl (by omega) ?_
        | refine w_opk rfl rfl ?_
        | refine w_cond_t rfl ?_
        | refine w_cond_f rfl ?_
        | refine w_skip ?_
        | refine w_exit rfl ?_
        | refine w_ret ?_
        | refine w_rt rfl ?_)
      · exact absurd hc (by show ¬ r.1 < 0; omega)
      refine w_iadrS rfl rfl rs hi1 ?_
      refine w_on rfl (w_fadr rfl hS1 rfl fun hS10 => ?_)
      refine w_on rfl (w_load1 rfl hS10 rfl ?_)
      repeat' (first
        | refine w_seq ?_
        | refine w_reg ?_
        | refine w_end (by simp only [outsV, nth, setV, List.take_succ_cons, List.take_zero, List.length_cons, List.length_nil, Nat.zero_add, Nat.reduceAdd] <;> rfl) ?_
        | refine w_off rfl ?_
        | refine w_rf rfl (by assumption) (by rfl) (by rfl) (by rfl) ?_
        | refine w_rfg rfl rfl (by assumption) (by rfl) (by rfl) (by rfl) (by rfl) ?_
        | refine w_on rfl ?_
        | refine w_len rfl (by assumption) ?_
        | refine w_lssN rfl rfl (fun hc => ?_) (fun hc => ?_)
        | refine w_leqN rfl rfl (fun hc => ?_) (fun hc => ?_)
        | refine w_gtrN rfl rfl (fun hc => ?_) (fun hc => ?_)
        | refine w_geqN rfl rfl (fun hc => ?_) (fun hc => ?_)
        | refine w_eqlN rfl rfl (fun hc => ?_) (fun hc => ?_)
        | refine w_neqN rfl rfl (fun hc => ?_) (fun hc => ?_)
        | refine w_lss rfl rfl (fun hc => ?_) (fun hc => ?_)
        | refine w_leq rfl rfl (fun hc => ?_) (fun hc => ?_)
        | refine w_gtr rfl rfl (fun hc => ?_) (fun hc => ?_)
        | refine w_geq rfl rfl (fun hc => ?_) (fun hc => ?_)
        | refine w_eql rfl rfl (fun hc => ?_) (fun hc => ?_)
        | refine w_neq rfl rfl (fun hc => ?_) (fun hc => ?_)
        | refine w_addN rfl rfl (by omega) ?_
        | refine w_opk rfl rfl ?_
        | refine w_cond_t rfl ?_
        | refine w_cond_f rfl ?_
        | refine w_skip ?_
        | refine w_exit rfl ?_
        | refine w_ret ?_
        | refine w_rt rfl ?_)
      · exact absurd hc (by show ¬ 1099511627776 < r.1; omega)
      exact ⟨hi1, rfl, _, _, _, rfl⟩
    · exact ⟨by assumption, rfl, _, _, _, rfl⟩
  · have hmax : (if Int.ofNat lb.length > Int.ofNat la.length then Int.ofNat lb.length else Int.ofNat la.length) = Int.ofNat ls.length := by
      have h1 := addP_len P Q
      have e1 : Int.ofNat lb.length = (lb.length : Int) := rfl
      have e2 : Int.ofNat la.length = (la.length : Int) := rfl
      have e3 : Int.ofNat ls.length = (ls.length : Int) := rfl
      rw [e1, e2, e3]
      split <;> omega
    refine w_mx1 rfl rfl hmax ?_
    repeat' (first
      | refine w_seq ?_
      | refine w_reg ?_
      | refine w_end (by simp only [outsV, nth, setV, List.take_succ_cons, List.take_zero, List.length_cons, List.length_nil, Nat.zero_add, Nat.reduceAdd] <;> rfl) ?_
      | refine w_off rfl ?_
      | refine w_rf rfl (by assumption) (by rfl) (by rfl) (by rfl) ?_
      | refine w_rfg rfl rfl (by assumption) (by rfl) (by rfl) (by rfl) (by rfl) ?_
      | refine w_on rfl ?_
      | refine w_len rfl (by assumption) ?_
      | refine w_lssN rfl rfl (fun hc => ?_) (fun hc => ?_)
      | refine w_leqN rfl rfl (fun hc => ?_) (fun hc => ?_)
      | refine w_gtrN rfl rfl (fun hc => ?_) (fun hc => ?_)
      | refine w_geqN rfl rfl (fun hc => ?_) (fun hc => ?_)
      | refine w_eqlN rfl rfl (fun hc => ?_) (fun hc => ?_)
      | refine w_neqN rfl rfl (fun hc => ?_) (fun hc => ?_)
      | refine w_lss rfl rfl (fun hc => ?_) (fun hc => ?_)
      | refine w_leq rfl rfl (fun hc => ?_) (fun hc => ?_)
      | refine w_gtr rfl rfl (fun hc => ?_) (fun hc => ?_)
      | refine w_geq rfl rfl (fun hc => ?_) (fun hc => ?_)
      | refine w_eql rfl rfl (fun hc => ?_) (fun hc => ?_)
      | refine w_neq rfl rfl (fun hc => ?_) (fun hc => ?_)
      | refine w_addN rfl rfl (by omega) ?_
      | refine w_opk rfl rfl ?_
      | refine w_cond_t rfl ?_
      | refine w_cond_f rfl ?_
      | refine w_skip ?_
      | refine w_exit rfl ?_
      | refine w_ret ?_
      | refine w_rt rfl ?_)
    · refine w_aw13 hO ?_
      repeat' (first
        | refine w_seq ?_
        | refine w_reg ?_
        | refine w_end (by simp only [outsV, nth, setV, List.take_succ_cons, List.take_zero, List.length_cons, List.length_nil, Nat.zero_add, Nat.reduceAdd] <;> rfl) ?_
        | refine w_off rfl ?_
        | refine w_rf rfl (by assumption) (by rfl) (by rfl) (by rfl) ?_
        | refine w_rfg rfl rfl (by assumption) (by rfl) (by rfl) (by rfl) (by rfl) ?_
        | refine w_on rfl ?_
        | refine w_len rfl (by assumption) ?_
        | refine w_lssN rfl rfl (fun hc => ?_) (fun hc => ?_)
        | refine w_leqN rfl rfl (fun hc => ?_) (fun hc => ?_)
        | refine w_gtrN rfl rfl (fun hc => ?_) (fun hc => ?_)
        | refine w_geqN rfl rfl (fun hc => ?_) (fun hc => ?_)
        | refine w_eqlN rfl rfl (fun hc => ?_) (fun hc => ?_)
        | refine w_neqN rfl rfl (fun hc => ?_) (fun hc => ?_)
        | refine w_lss rfl rfl (fun hc => ?_) (fun hc => ?_)
        | refine w_leq rfl rfl (fun hc => ?_) (fun hc => ?_)
        | refine w_gtr rfl rfl (fun hc => ?_) (fun hc => ?_)
        | refine w_geq rfl rfl (fun hc => ?_) (fun hc => ?_)
        | refine w_eql rfl rfl (fun hc => ?_) (fun hc => ?_)
        | refine w_neq rfl rfl (fun hc => ?_) (fun hc => ?_)
        | refine w_addN rfl rfl (by omega) ?_
        | refine w_opk rfl rfl ?_
        | refine w_cond_t rfl ?_
        | refine w_cond_f rfl ?_
        | refine w_skip ?_
        | refine w_exit rfl ?_
        | refine w_ret ?_
        | refine w_rt rfl ?_)
      rfl
    · exact absurd rfl hc
end AmT
