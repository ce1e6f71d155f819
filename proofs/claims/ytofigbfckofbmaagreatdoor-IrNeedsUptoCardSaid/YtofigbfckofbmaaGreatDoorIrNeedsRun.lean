/-
  droverkit.Pick, and IrNeeds, which answers true at any module. Conditions: the module is one, by its cells.
-/
import Derived.Test.YtofigbfckofbmaaGreatDoorIrSumsRun
namespace AmT
open Go Am
set_option maxRecDepth 100000
set_option maxHeartbeats 4000000
set_option linter.unusedSimpArgs false
set_option linter.unusedVariables false
variable {O : CallF}

theorem pick_ok (hO : ∀ a h, O 13 a h = none) {h0 : Heap} {n : Int} {L : Nat} (hL : 0 < L) (hL2 : L ≤ 2097152) : WPc tab.get O 13 [.int .i64 n, .int .i64 (.ofNat L)] h0 (fun v h' => (∃ k : Nat, v = .int .i64 (.ofNat k) ∧ k < L) ∧ h' = h0) := by
  refine w_fn' (hO _ _) rfl rfl (by simp only [c13, initV, nth] <;> rfl) ?_
  have hb := tmod_bound n hL
  have e0 : Int.ofNat L = (L : Int) := rfl
  repeat' (first
    | refine w_seq ?_
    | refine w_reg ?_
    | refine w_end (by simp only [outsV, nth, setV, List.take_succ_cons, List.take_zero, List.length_cons, List.length_nil, Nat.zero_add, Nat.reduceAdd] <;> rfl) ?_
    | refine w_off rfl ?_
    | refine w_rf rfl (by assumption) (by rfl) (by rfl) (by rfl) ?_
    | refine w_rfg rfl rfl (by assumption) (by rfl) (by rfl) (by rfl) (by rfl) ?_
    | refine w_on rfl ?_
    | refine w_len rfl (by assumption) ?_
    | refine w_lssN rfl rfl (fun hc => ?_) (fun hc => ?_)
    | refine w_leqN rfl rfl (fun hc => ?_) (fun hc => ?_)
    | refine w_gtrN rfl rfl (fun hc => ?_) (fun hc => ?_)
    | refine w_geqN rfl rfl (fun hc => ?_) (fun hc => ?_)
    | refine w_eqlN rfl rfl (fun hc => ?_) (fun hc => ?_)
    | refine w_neqN rfl rfl (fun hc => ?_) (fun hc => ?_)
    | refine w_lss rfl rfl (fun hc => ?_) (fun hc => ?_)
    | refine w_leq rfl rfl (fun hc => ?_) (fun hc => ?_)
    | refine w_gtr rfl rfl (fun hc => ?_) (fun hc => ?_)
    | refine w_geq rfl rfl (fun hc => ?_) (fun hc => ?_)
    | refine w_eql rfl rfl (fun hc => ?_) (fun hc => ?_)
    | refine w_neq rfl rfl (fun hc => ?_) (fun hc => ?_)
    | refine w_addN rfl rfl (by omega) ?_
    | refine w_opk rfl rfl ?_
    | refine w_cond_t rfl ?_
    | refine w_cond_f rfl ?_
    | refine w_skip ?_
    | refine w_exit rfl ?_
    | refine w_ret ?_
    | refine w_rt rfl ?_)
  · exact absurd hc (by omega)
  refine w_rem rfl rfl (by omega) ?_
  repeat' (first
    | refine w_seq ?_
    | refine w_reg ?_
    | refine w_end (by simp only [outsV, nth, setV, List.take_succ_cons, List.take_zero, List.length_cons, List.length_nil, Nat.zero_add, Nat.reduceAdd] <;> rfl) ?_
    | refine w_off rfl ?_
    | refine w_rf rfl (by assumption) (by rfl) (by rfl) (by rfl) ?_
    | refine w_rfg rfl rfl (by assumption) (by rfl) (by rfl) (by rfl) (by rfl) ?_
    | refine w_on rfl ?_
    | refine w_len rfl (by assumption) ?_
    | refine w_lssN rfl rfl (fun hc => ?_) (fun hc => ?_)
    | refine w_leqN rfl rfl (fun hc => ?_) (fun hc => ?_)
    | refine w_gtrN rfl rfl (fun hc => ?_) (fun hc => ?_)
    | refine w_geqN rfl rfl (fun hc => ?_) (fun hc => ?_)
    | refine w_eqlN rfl rfl (fun hc => ?_) (fun hc => ?_)
    | refine w_neqN rfl rfl (fun hc => ?_) (fun hc => ?_)
    | refine w_lss rfl rfl (fun hc => ?_) (fun hc => ?_)
    | refine w_leq rfl rfl (fun hc => ?_) (fun hc => ?_)
    | refine w_gtr rfl rfl (fun hc => ?_) (fun hc => ?_)
    | refine w_geq rfl rfl (fun hc => ?_) (fun hc => ?_)
    | refine w_eql rfl rfl (fun hc => ?_) (fun hc => ?_)
    | refine w_neq rfl rfl (fun hc => ?_) (fun hc => ?_)
    | refine w_addN rfl rfl (by omega) ?_
    | refine w_opk rfl rfl ?_
    | refine w_cond_t rfl ?_
    | refine w_cond_f rfl ?_
    | refine w_skip ?_
    | refine w_exit rfl ?_
    | refine w_ret ?_
    | refine w_rt rfl ?_)
  · have hc : n.tmod (Int.ofNat L) < 0 := hc
    have hq : wrapK .i64 (Int.add (n.tmod (Int.ofNat L)) (Int.ofNat L)) = Int.ofNat (n.tmod (Int.ofNat L) + Int.ofNat L).toNat := by
      have e1 : Int.add (n.tmod (Int.ofNat L)) (Int.ofNat L) = n.tmod (Int.ofNat L) + Int.ofNat L := rfl
      rw [wrapK_eq, e1, wrap_i64_of (by omega) (by omega)]
      show _ = ((_ : Nat) : Int)
      omega
    exact ⟨⟨_, by rw [hq]; rfl, by omega⟩, rfl⟩
  · have hc : 0 ≤ n.tmod (Int.ofNat L) := hc
    have hq : n.tmod (Int.ofNat L) = Int.ofNat (n.tmod (Int.ofNat L)).toNat := by
      show _ = ((_ : Nat) : Int)
      omega
    exact ⟨⟨(n.tmod (Int.ofNat L)).toNat, by rw [← hq]; rfl, by omega⟩, rfl⟩

/-- A need that holds. -/
def GoodN (S : List Int) (c : List V) : Prop := ∃ (k : Nat) (r : Int), c = [.int .i64 (.ofNat k), .int .u32 r] ∧ S[k]? = some r
theorem GoodN.need {S : List Int} {c : List V} (h : GoodN S c) : NeedC c := by
  obtain ⟨k, r, rfl, _⟩ := h
  exact ⟨_, _, rfl⟩
theorem GoodN.ok {S : List Int} {c : List V} (h : GoodN S c) : needC S c = true := by
  obtain ⟨k, r, rfl, hr⟩ := h
  exact decide_eq_true ⟨Int.natCast_nonneg _, hr⟩

theorem set_false {S : List Int} {l : List (List V)} {k : Nat} {c : List V} (hk : k < l.length) (hc : needC S c = false) : (l.set k c).all (needC S) = false := by
  cases h : (l.set k c).all (needC S) with
  | false => rfl
  | true =>
    have := List.all_eq_true.1 h c (List.mem_of_getElem? (show (l.set k c)[k]? = some c by simp [hk]))
    rw [hc] at this; cases this

theorem set_need {S : List Int} {l : List (List V)} {k : Nat} {c : List V} (hl : ∀ c ∈ l, GoodN S c) (hc : NeedC c) : ∀ x ∈ l.set k c, NeedC x := by
  intro x hx
  rcases List.mem_or_eq_of_mem_set hx with h | h
  · exact (hl x h).need
  · rw [h]; exact hc

theorem irNeeds_ok (hO : Off14 O) {h0 : Heap} {c : List V} {s1 : V} {ns : List (List V)} {x0 x1 : Int} (hm : ModC h0 c) (hs1 : RS h0 1 s1 ns) (hns : ∀ c ∈ ns, ∃ n : Int, c = [.int .i64 n]) (hnl : ns.length ≤ 2097152) :
    WPc tab.get O 5 [.agg c, s1, .agg [.int .i64 x0, .int .i64 x1]] h0 (fun v h' => v = .bool true) := by
  refine w_fn' (hO.l3 _ _) rfl rfl (by simp only [c5, initV, nth] <;> rfl) ?_
  have hone := hm.one
  have hm0 := hm
  obtain ⟨cs, ts, fs, rs, lc, lt, lf, lr, rfl, hcs, hts, hfs, hrs, hf, hr, bf, br⟩ := hm
  obtain ⟨S, hS⟩ := fnsS_of hfs hf
  have hS0 := hS
  refine w_seq (w_reg (w_box rfl rfl hone.2 fun im h1 hM him hE => ?_))
  refine w_box rfl rfl rfl fun ix h2 hX hix hE2 => ?_
  have E2 := hE.trans hE2
  replace hM := hM.ext0 hE2
  have himl := hM.1
  have hixl := hX.1
  repeat' (first
    | refine w_seq ?_
    | refine w_reg ?_
    | refine w_end (by simp only [outsV, nth, setV, List.take_succ_cons, List.take_zero, List.length_cons, List.length_nil, Nat.zero_add, Nat.reduceAdd] <;> rfl) ?_
    | refine w_off rfl ?_
    | refine w_rf rfl (by assumption) (by rfl) (by rfl) (by rfl) ?_
    | refine w_rfg rfl rfl (by assumption) (by rfl) (by rfl) (by rfl) (by rfl) ?_
    | refine w_on rfl ?_
    | refine w_len rfl (by assumption) ?_
    | refine w_lssN rfl rfl (fun hc => ?_) (fun hc => ?_)
    | refine w_leqN rfl rfl (fun hc => ?_) (fun hc => ?_)
    | refine w_gtrN rfl rfl (fun hc => ?_) (fun hc => ?_)
    | refine w_geqN rfl rfl (fun hc => ?_) (fun hc => ?_)
    | refine w_eqlN rfl rfl (fun hc => ?_) (fun hc => ?_)
    | refine w_neqN rfl rfl (fun hc => ?_) (fun hc => ?_)
    | refine w_lss rfl rfl (fun hc => ?_) (fun hc => ?_)
    | refine w_leq rfl rfl (fun hc => ?_) (fun hc => ?_)
    | refine w_gtr rfl rfl (fun hc => ?_) (fun hc => ?_)
    | refine w_geq rfl rfl (fun hc => ?_) (fun hc => ?_)
    | refine w_eql rfl rfl (fun hc => ?_) (fun hc => ?_)
    | refine w_neq rfl rfl (fun hc => ?_) (fun hc => ?_)
    | refine w_addN rfl rfl (by omega) ?_
    | refine w_opk rfl rfl ?_
    | refine w_cond_t rfl ?_
    | refine w_cond_f rfl ?_
    | refine w_skip ?_
    | refine w_exit rfl ?_
    | refine w_ret ?_
    | refine w_rt rfl ?_)
  refine w_loadA rfl (hM.at rfl) rfl ?_
  refine w_call rfl ((great_ok hO.gr (hm0.ext E2)).mono fun v h3 ⟨⟨b, hv⟩, hE3⟩ => ?_)
  subst hv
  replace hM := hM.ext0 hE3
  replace hX := hX.ext0 hE3
  have E3 := E2.trans hE3
  replace hS := hS0.ext E3
  have hfs := hS.1
  cases b with
  | true =>
    repeat' (first
      | refine w_seq ?_
      | refine w_reg ?_
      | refine w_end (by simp only [outsV, nth, setV, List.take_succ_cons, List.take_zero, List.length_cons, List.length_nil, Nat.zero_add, Nat.reduceAdd] <;> rfl) ?_
      | refine w_off rfl ?_
      | refine w_rf rfl (by assumption) (by rfl) (by rfl) (by rfl) ?_
      | refine w_rfg rfl rfl (by assumption) (by rfl) (by rfl) (by rfl) (by rfl) ?_
      | refine w_on rfl ?_
      | refine w_len rfl (by assumption) ?_
      | refine w_lssN rfl rfl (fun hc => ?_) (fun hc => ?_)
      | refine w_leqN rfl rfl (fun hc => ?_) (fun hc => ?_)
      | refine w_gtrN rfl rfl (fun hc => ?_) (fun hc => ?_)
      | refine w_geqN rfl rfl (fun hc => ?_) (fun hc => ?_)
      | refine w_eqlN rfl rfl (fun hc => ?_) (fun hc => ?_)
      | refine w_neqN rfl rfl (fun hc => ?_) (fun hc => ?_)
      | refine w_lss rfl rfl (fun hc => ?_) (fun hc => ?_)
      | refine w_leq rfl rfl (fun hc => ?_) (fun hc => ?_)
      | refine w_gtr rfl rfl (fun hc => ?_) (fun hc => ?_)
      | refine w_geq rfl rfl (fun hc => ?_) (fun hc => ?_)
      | refine w_eql rfl rfl (fun hc => ?_) (fun hc => ?_)
      | refine w_neq rfl rfl (fun hc => ?_) (fun hc => ?_)
      | refine w_addN rfl rfl (by omega) ?_
      | refine w_opk rfl rfl ?_
      | refine w_cond_t rfl ?_
      | refine w_cond_f rfl ?_
      | refine w_skip ?_
      | refine w_exit rfl ?_
      | refine w_ret ?_
      | refine w_rt rfl ?_)
    refine w_aw hO ?_
    repeat' (first
      | refine w_seq ?_
      | refine w_reg ?_
      | refine w_end (by simp only [outsV, nth, setV, List.take_succ_cons, List.take_zero, List.length_cons, List.length_nil, Nat.zero_add, Nat.reduceAdd] <;> rfl) ?_
      | refine w_off rfl ?_
      | refine w_rf rfl (by assumption) (by rfl) (by rfl) (by rfl) ?_
      | refine w_rfg rfl rfl (by assumption) (by rfl) (by rfl) (by rfl) (by rfl) ?_
      | refine w_on rfl ?_
      | refine w_len rfl (by assumption) ?_
      | refine w_lssN rfl rfl (fun hc => ?_) (fun hc => ?_)
      | refine w_leqN rfl rfl (fun hc => ?_) (fun hc => ?_)
      | refine w_gtrN rfl rfl (fun hc => ?_) (fun hc => ?_)
      | refine w_geqN rfl rfl (fun hc => ?_) (fun hc => ?_)
      | refine w_eqlN rfl rfl (fun hc => ?_) (fun hc => ?_)
      | refine w_neqN rfl rfl (fun hc => ?_) (fun hc => ?_)
      | refine w_lss rfl rfl (fun hc => ?_) (fun hc => ?_)
      | refine w_leq rfl rfl (fun hc => ?_) (fun hc => ?_)
      | refine w_gtr rfl rfl (fun hc => ?_) (fun hc => ?_)
      | refine w_geq rfl rfl (fun hc => ?_) (fun hc => ?_)
      | refine w_eql rfl rfl (fun hc => ?_) (fun hc => ?_)
      | refine w_neq rfl rfl (fun hc => ?_) (fun hc => ?_)
      | refine w_addN rfl rfl (by omega) ?_
      | refine w_opk rfl rfl ?_
      | refine w_cond_t rfl ?_
      | refine w_cond_f rfl ?_
      | refine w_skip ?_
      | refine w_exit rfl ?_
      | refine w_ret ?_
      | refine w_rt rfl ?_)
    rfl
  | false =>
    repeat' (first
      | refine w_seq ?_
      | refine w_reg ?_
      | refine w_end (by simp only [outsV, nth, setV, List.take_succ_cons, List.take_zero, List.length_cons, List.length_nil, Nat.zero_add, Nat.reduceAdd] <;> rfl) ?_
      | refine w_off rfl ?_
      | refine w_rf rfl (by assumption) (by rfl) (by rfl) (by rfl) ?_
      | refine w_rfg rfl rfl (by assumption) (by rfl) (by rfl) (by rfl) (by rfl) ?_
      | refine w_on rfl ?_
      | refine w_len rfl (by assumption) ?_
      | refine w_lssN rfl rfl (fun hc => ?_) (fun hc => ?_)
      | refine w_leqN rfl rfl (fun hc => ?_) (fun hc => ?_)
      | refine w_gtrN rfl rfl (fun hc => ?_) (fun hc => ?_)
      | refine w_geqN rfl rfl (fun hc => ?_) (fun hc => ?_)
      | refine w_eqlN rfl rfl (fun hc => ?_) (fun hc => ?_)
      | refine w_neqN rfl rfl (fun hc => ?_) (fun hc => ?_)
      | refine w_lss rfl rfl (fun hc => ?_) (fun hc => ?_)
      | refine w_leq rfl rfl (fun hc => ?_) (fun hc => ?_)
      | refine w_gtr rfl rfl (fun hc => ?_) (fun hc => ?_)
      | refine w_geq rfl rfl (fun hc => ?_) (fun hc => ?_)
      | refine w_eql rfl rfl (fun hc => ?_) (fun hc => ?_)
      | refine w_neq rfl rfl (fun hc => ?_) (fun hc => ?_)
      | refine w_addN rfl rfl (by omega) ?_
      | refine w_opk rfl rfl ?_
      | refine w_cond_t rfl ?_
      | refine w_cond_f rfl ?_
      | refine w_skip ?_
      | refine w_exit rfl ?_
      | refine w_ret ?_
      | refine w_rt rfl ?_)
    · refine w_aw hO ?_
      repeat' (first
        | refine w_seq ?_
        | refine w_reg ?_
        | refine w_end (by simp only [outsV, nth, setV, List.take_succ_cons, List.take_zero, List.length_cons, List.length_nil, Nat.zero_add, Nat.reduceAdd] <;> rfl) ?_
        | refine w_off rfl ?_
        | refine w_rf rfl (by assumption) (by rfl) (by rfl) (by rfl) ?_
        | refine w_rfg rfl rfl (by assumption) (by rfl) (by rfl) (by rfl) (by rfl) ?_
        | refine w_on rfl ?_
        | refine w_len rfl (by assumption) ?_
        | refine w_lssN rfl rfl (fun hc => ?_) (fun hc => ?_)
        | refine w_leqN rfl rfl (fun hc => ?_) (fun hc => ?_)
        | refine w_gtrN rfl rfl (fun hc => ?_) (fun hc => ?_)
        | refine w_geqN rfl rfl (fun hc => ?_) (fun hc => ?_)
        | refine w_eqlN rfl rfl (fun hc => ?_) (fun hc => ?_)
        | refine w_neqN rfl rfl (fun hc => ?_) (fun hc => ?_)
        | refine w_lss rfl rfl (fun hc => ?_) (fun hc => ?_)
        | refine w_leq rfl rfl (fun hc => ?_) (fun hc => ?_)
        | refine w_gtr rfl rfl (fun hc => ?_) (fun hc => ?_)
        | refine w_geq rfl rfl (fun hc => ?_) (fun hc => ?_)
        | refine w_eql rfl rfl (fun hc => ?_) (fun hc => ?_)
        | refine w_neq rfl rfl (fun hc => ?_) (fun hc => ?_)
        | refine w_addN rfl rfl (by omega) ?_
        | refine w_opk rfl rfl ?_
        | refine w_cond_t rfl ?_
        | refine w_cond_f rfl ?_
        | refine w_skip ?_
        | refine w_exit rfl ?_
        | refine w_ret ?_
        | refine w_rt rfl ?_)
      rfl
    have hL : 0 < lf.length := Nat.pos_of_ne_zero hc
    refine w_alloc fun i6 h4 hF hi6 hE4 => ?_
    replace hM := hM.ext0 hE4
    replace hX := hX.ext0 hE4
    have E4 := E3.trans hE4
    have hne : im ≠ i6 ∧ ix ≠ i6 := by have := hE3.1; omega
    have hi60 : h0.n ≤ i6 := by have := E3.1; omega
    replace hS := hS0.ext E4
    repeat' (first
      | refine w_seq ?_
      | refine w_reg ?_
      | refine w_end (by simp only [outsV, nth, setV, List.take_succ_cons, List.take_zero, List.length_cons, List.length_nil, Nat.zero_add, Nat.reduceAdd] <;> rfl) ?_
      | refine w_off rfl ?_
      | refine w_rf rfl (by assumption) (by rfl) (by rfl) (by rfl) ?_
      | refine w_rfg rfl rfl (by assumption) (by rfl) (by rfl) (by rfl) (by rfl) ?_
      | refine w_on rfl ?_
      | refine w_len rfl (by assumption) ?_
      | refine w_lssN rfl rfl (fun hc => ?_) (fun hc => ?_)
      | refine w_leqN rfl rfl (fun hc => ?_) (fun hc => ?_)
      | refine w_gtrN rfl rfl (fun hc => ?_) (fun hc => ?_)
      | refine w_geqN rfl rfl (fun hc => ?_) (fun hc => ?_)
      | refine w_eqlN rfl rfl (fun hc => ?_) (fun hc => ?_)
      | refine w_neqN rfl rfl (fun hc => ?_) (fun hc => ?_)
      | refine w_lss rfl rfl (fun hc => ?_) (fun hc => ?_)
      | refine w_leq rfl rfl (fun hc => ?_) (fun hc => ?_)
      | refine w_gtr rfl rfl (fun hc => ?_) (fun hc => ?_)
      | refine w_geq rfl rfl (fun hc => ?_) (fun hc => ?_)
      | refine w_eql rfl rfl (fun hc => ?_) (fun hc => ?_)
      | refine w_neq rfl rfl (fun hc => ?_) (fun hc => ?_)
      | refine w_addN rfl rfl (by omega) ?_
      | refine w_opk rfl rfl ?_
      | refine w_cond_t rfl ?_
      | refine w_cond_f rfl ?_
      | refine w_skip ?_
      | refine w_exit rfl ?_
      | refine w_ret ?_
      | refine w_rt rfl ?_)
    refine w_loadA rfl (hM.at rfl) rfl ?_
    refine w_loadA rfl (hF.at rfl) rfl ?_
    refine w_call rfl ((holds_ok hO.toOffHolds rfl hone.2 hS rfl rfl (RS.nils _ _) (by simp) (by simp)).mono fun v h5 ⟨hv, hE5⟩ => ?_)
    subst hv
    simp only [List.all_nil]
    replace hM := hM.ext0 hE5
    replace hX := hX.ext0 hE5
    replace hF := hF.ext0 hE5
    have E5 := E4.trans hE5
    have hMl := hM.1
    have hXl := hX.1
    have hFl := hF.1
    clear hS hfs hE hE2 hE3 hE4 hE5
    repeat' (first
      | refine w_seq ?_
      | refine w_reg ?_
      | refine w_end (by simp only [outsV, nth, setV, List.take_succ_cons, List.take_zero, List.length_cons, List.length_nil, Nat.zero_add, Nat.reduceAdd] <;> rfl) ?_
      | refine w_off rfl ?_
      | refine w_rf rfl (by assumption) (by rfl) (by rfl) (by rfl) ?_
      | refine w_rfg rfl rfl (by assumption) (by rfl) (by rfl) (by rfl) (by rfl) ?_
      | refine w_on rfl ?_
      | refine w_len rfl (by assumption) ?_
      | refine w_lssN rfl rfl (fun hc => ?_) (fun hc => ?_)
      | refine w_leqN rfl rfl (fun hc => ?_) (fun hc => ?_)
      | refine w_gtrN rfl rfl (fun hc => ?_) (fun hc => ?_)
      | refine w_geqN rfl rfl (fun hc => ?_) (fun hc => ?_)
      | refine w_eqlN rfl rfl (fun hc => ?_) (fun hc => ?_)
      | refine w_neqN rfl rfl (fun hc => ?_) (fun hc => ?_)
      | refine w_lss rfl rfl (fun hc => ?_) (fun hc => ?_)
      | refine w_leq rfl rfl (fun hc => ?_) (fun hc => ?_)
      | refine w_gtr rfl rfl (fun hc => ?_) (fun hc => ?_)
      | refine w_geq rfl rfl (fun hc => ?_) (fun hc => ?_)
      | refine w_eql rfl rfl (fun hc => ?_) (fun hc => ?_)
      | refine w_neq rfl rfl (fun hc => ?_) (fun hc => ?_)
      | refine w_addN rfl rfl (by omega) ?_
      | refine w_opk rfl rfl ?_
      | refine w_cond_t rfl ?_
      | refine w_cond_f rfl ?_
      | refine w_skip ?_
      | refine w_exit rfl ?_
      | refine w_ret ?_
      | refine w_rt rfl ?_)
    refine WPx.mono (N := fun vs h => ∃ j sv l, j ≤ 20 ∧ (∃ a5 a7 b w a11 a12 a14 a15 a16, vs = [.agg [cs, ts, fs, rs], s1, .agg [.int .i64 x0, .int .i64 x1], .bool false, .ptr im 0 0 4, a5, .ptr i6 0 0 5, a7, .int .i64 (.ofNat j), b, w, a11, a12, .ptr ix 0 0 2, a14, a15, a16]) ∧
      ExtX [i6] h5 h ∧ Own h i6 [nI 0, nI 0, .nils, .nils, sv] ∧ Ow h 2 sv l ∧ (∀ jd ∈ slIds sv, h5.n ≤ jd) ∧ l.length = j ∧ ∀ c ∈ l, GoodN S c)
      (w_count (fun j vs h => ∃ sv l, (∃ a5 a7 b w a11 a12 a14 a15 a16, vs = [.agg [cs, ts, fs, rs], s1, .agg [.int .i64 x0, .int .i64 x1], .bool false, .ptr im 0 0 4, a5, .ptr i6 0 0 5, a7, .int .i64 (.ofNat j), b, w, a11, a12, .ptr ix 0 0 2, a14, a15, a16]) ∧
        ExtX [i6] h5 h ∧ Own h i6 [nI 0, nI 0, .nils, .nils, sv] ∧ Ow h 2 sv l ∧ (∀ jd ∈ slIds sv, h5.n ≤ jd) ∧ l.length = j ∧ ∀ c ∈ l, GoodN S c) (min ns.length 20)
        ⟨.nils, [], ⟨_, _, _, _, _, _, _, _, _, rfl⟩, ExtX.refl _ _, hF, Ow.nils _ _, by simp [slIds], rfl, by simp⟩ ?_) ?_ (fun _ _ x => x)
    · rintro j vs h hj ⟨sv, l, ⟨a5, a7, b, w, a11, a12, a14, a15, a16, rfl⟩, hE6, hF, hsv, hsl, hl, hg⟩
      have E6 : Ext h0 h := E5.step hE6 fun jd hjd => by simp at hjd; exact .inr (by omega)
      have hM6 := hM.ext hE6 (by simp; omega)
      have hS6 := hS0.ext E6
      have hfs6 := hS6.1
      have hs16 := hs1.ext0 E6
      repeat' (first
        | refine w_seq ?_
        | refine w_reg ?_
        | refine w_end (by simp only [outsV, nth, setV, List.take_succ_cons, List.take_zero, List.length_cons, List.length_nil, Nat.zero_add, Nat.reduceAdd] <;> rfl) ?_
        | refine w_off rfl ?_
        | refine w_rf rfl (by assumption) (by rfl) (by rfl) (by rfl) ?_
        | refine w_rfg rfl rfl (by assumption) (by rfl) (by rfl) (by rfl) (by rfl) ?_
        | refine w_on rfl ?_
        | refine w_len rfl (by assumption) ?_
        | refine w_lssN rfl rfl (fun hc => ?_) (fun hc => ?_)
        | refine w_leqN rfl rfl (fun hc => ?_) (fun hc => ?_)
        | refine w_gtrN rfl rfl (fun hc => ?_) (fun hc => ?_)
        | refine w_geqN rfl rfl (fun hc => ?_) (fun hc => ?_)
        | refine w_eqlN rfl rfl (fun hc => ?_) (fun hc => ?_)
        | refine w_neqN rfl rfl (fun hc => ?_) (fun hc => ?_)
        | refine w_lss rfl rfl (fun hc => ?_) (fun hc => ?_)
        | refine w_leq rfl rfl (fun hc => ?_) (fun hc => ?_)
        | refine w_gtr rfl rfl (fun hc => ?_) (fun hc => ?_)
        | refine w_geq rfl rfl (fun hc => ?_) (fun hc => ?_)
        | refine w_eql rfl rfl (fun hc => ?_) (fun hc => ?_)
        | refine w_neq rfl rfl (fun hc => ?_) (fun hc => ?_)
        | refine w_addN rfl rfl (by omega) ?_
        | refine w_opk rfl rfl ?_
        | refine w_cond_t rfl ?_
        | refine w_cond_f rfl ?_
        | refine w_skip ?_
        | refine w_exit rfl ?_
        | refine w_ret ?_
        | refine w_rt rfl ?_)
      · refine w_block ?_
        repeat' (first
          | refine w_seq ?_
          | refine w_reg ?_
          | refine w_end (by simp only [outsV, nth, setV, List.take_succ_cons, List.take_zero, List.length_cons, List.length_nil, Nat.zero_add, Nat.reduceAdd] <;> rfl) ?_
          | refine w_off rfl ?_
          | refine w_rf rfl (by assumption) (by rfl) (by rfl) (by rfl) ?_
          | refine w_rfg rfl rfl (by assumption) (by rfl) (by rfl) (by rfl) (by rfl) ?_
          | refine w_on rfl ?_
          | refine w_len rfl (by assumption) ?_
          | refine w_lssN rfl rfl (fun hc => ?_) (fun hc => ?_)
          | refine w_leqN rfl rfl (fun hc => ?_) (fun hc => ?_)
          | refine w_gtrN rfl rfl (fun hc => ?_) (fun hc => ?_)
          | refine w_geqN rfl rfl (fun hc => ?_) (fun hc => ?_)
          | refine w_eqlN rfl rfl (fun hc => ?_) (fun hc => ?_)
          | refine w_neqN rfl rfl (fun hc => ?_) (fun hc => ?_)
          | refine w_lss rfl rfl (fun hc => ?_) (fun hc => ?_)
          | refine w_leq rfl rfl (fun hc => ?_) (fun hc => ?_)
          | refine w_gtr rfl rfl (fun hc => ?_) (fun hc => ?_)
          | refine w_geq rfl rfl (fun hc => ?_) (fun hc => ?_)
          | refine w_eql rfl rfl (fun hc => ?_) (fun hc => ?_)
          | refine w_neq rfl rfl (fun hc => ?_) (fun hc => ?_)
          | refine w_addN rfl rfl (by omega) ?_
          | refine w_opk rfl rfl ?_
          | refine w_cond_t rfl ?_
          | refine w_cond_f rfl ?_
          | refine w_skip ?_
          | refine w_exit rfl ?_
          | refine w_ret ?_
          | refine w_rt rfl ?_)
        have hj1 : j < ns.length := by assumption
        have hj2 : j < 20 := by assumption
        refine w_iadr rfl rfl hs16 hj1 fun p hp => ?_
        obtain ⟨y, hy⟩ := hns _ (List.getElem_mem hj1)
        rw [hy] at hp
        refine w_load1 rfl hp rfl ?_
        repeat' (first
          | refine w_seq ?_
          | refine w_reg ?_
          | refine w_end (by simp only [outsV, nth, setV, List.take_succ_cons, List.take_zero, List.length_cons, List.length_nil, Nat.zero_add, Nat.reduceAdd] <;> rfl) ?_
          | refine w_off rfl ?_
          | refine w_rf rfl (by assumption) (by rfl) (by rfl) (by rfl) ?_
          | refine w_rfg rfl rfl (by assumption) (by rfl) (by rfl) (by rfl) (by rfl) ?_
          | refine w_on rfl ?_
          | refine w_len rfl (by assumption) ?_
          | refine w_lssN rfl rfl (fun hc => ?_) (fun hc => ?_)
          | refine w_leqN rfl rfl (fun hc => ?_) (fun hc => ?_)
          | refine w_gtrN rfl rfl (fun hc => ?_) (fun hc => ?_)
          | refine w_geqN rfl rfl (fun hc => ?_) (fun hc => ?_)
          | refine w_eqlN rfl rfl (fun hc => ?_) (fun hc => ?_)
          | refine w_neqN rfl rfl (fun hc => ?_) (fun hc => ?_)
          | refine w_lss rfl rfl (fun hc => ?_) (fun hc => ?_)
          | refine w_leq rfl rfl (fun hc => ?_) (fun hc => ?_)
          | refine w_gtr rfl rfl (fun hc => ?_) (fun hc => ?_)
          | refine w_geq rfl rfl (fun hc => ?_) (fun hc => ?_)
          | refine w_eql rfl rfl (fun hc => ?_) (fun hc => ?_)
          | refine w_neq rfl rfl (fun hc => ?_) (fun hc => ?_)
          | refine w_addN rfl rfl (by omega) ?_
          | refine w_opk rfl rfl ?_
          | refine w_cond_t rfl ?_
          | refine w_cond_f rfl ?_
          | refine w_skip ?_
          | refine w_exit rfl ?_
          | refine w_ret ?_
          | refine w_rt rfl ?_)
        refine w_call rfl ((pick_ok hO.pick hL bf).mono fun v h6 ⟨⟨k, hv, hk⟩, hh⟩ => ?_)
        subst hv hh
        repeat' (first
          | refine w_seq ?_
          | refine w_reg ?_
          | refine w_end (by simp only [outsV, nth, setV, List.take_succ_cons, List.take_zero, List.length_cons, List.length_nil, Nat.zero_add, Nat.reduceAdd] <;> rfl) ?_
          | refine w_off rfl ?_
          | refine w_rf rfl (by assumption) (by rfl) (by rfl) (by rfl) ?_
          | refine w_rfg rfl rfl (by assumption) (by rfl) (by rfl) (by rfl) (by rfl) ?_
          | refine w_on rfl ?_
          | refine w_len rfl (by assumption) ?_
          | refine w_lssN rfl rfl (fun hc => ?_) (fun hc => ?_)
          | refine w_leqN rfl rfl (fun hc => ?_) (fun hc => ?_)
          | refine w_gtrN rfl rfl (fun hc => ?_) (fun hc => ?_)
          | refine w_geqN rfl rfl (fun hc => ?_) (fun hc => ?_)
          | refine w_eqlN rfl rfl (fun hc => ?_) (fun hc => ?_)
          | refine w_neqN rfl rfl (fun hc => ?_) (fun hc => ?_)
          | refine w_lss rfl rfl (fun hc => ?_) (fun hc => ?_)
          | refine w_leq rfl rfl (fun hc => ?_) (fun hc => ?_)
          | refine w_gtr rfl rfl (fun hc => ?_) (fun hc => ?_)
          | refine w_geq rfl rfl (fun hc => ?_) (fun hc => ?_)
          | refine w_eql rfl rfl (fun hc => ?_) (fun hc => ?_)
          | refine w_neq rfl rfl (fun hc => ?_) (fun hc => ?_)
          | refine w_addN rfl rfl (by omega) ?_
          | refine w_opk rfl rfl ?_
          | refine w_cond_t rfl ?_
          | refine w_cond_f rfl ?_
          | refine w_skip ?_
          | refine w_exit rfl ?_
          | refine w_ret ?_
          | refine w_rt rfl ?_)
        refine w_loadA rfl (hM6.at rfl) rfl ?_
        repeat' (first
          | refine w_seq ?_
          | refine w_reg ?_
          | refine w_end (by simp only [outsV, nth, setV, List.take_succ_cons, List.take_zero, List.length_cons, List.length_nil, Nat.zero_add, Nat.reduceAdd] <;> rfl) ?_
          | refine w_off rfl ?_
          | refine w_rf rfl (by assumption) (by rfl) (by rfl) (by rfl) ?_
          | refine w_rfg rfl rfl (by assumption) (by rfl) (by rfl) (by rfl) (by rfl) ?_
          | refine w_on rfl ?_
          | refine w_len rfl (by assumption) ?_
          | refine w_lssN rfl rfl (fun hc => ?_) (fun hc => ?_)
          | refine w_leqN rfl rfl (fun hc => ?_) (fun hc => ?_)
          | refine w_gtrN rfl rfl (fun hc => ?_) (fun hc => ?_)
          | refine w_geqN rfl rfl (fun hc => ?_) (fun hc => ?_)
          | refine w_eqlN rfl rfl (fun hc => ?_) (fun hc => ?_)
          | refine w_neqN rfl rfl (fun hc => ?_) (fun hc => ?_)
          | refine w_lss rfl rfl (fun hc => ?_) (fun hc => ?_)
          | refine w_leq rfl rfl (fun hc => ?_) (fun hc => ?_)
          | refine w_gtr rfl rfl (fun hc => ?_) (fun hc => ?_)
          | refine w_geq rfl rfl (fun hc => ?_) (fun hc => ?_)
          | refine w_eql rfl rfl (fun hc => ?_) (fun hc => ?_)
          | refine w_neq rfl rfl (fun hc => ?_) (fun hc => ?_)
          | refine w_addN rfl rfl (by omega) ?_
          | refine w_opk rfl rfl ?_
          | refine w_cond_t rfl ?_
          | refine w_cond_f rfl ?_
          | refine w_skip ?_
          | refine w_exit rfl ?_
          | refine w_ret ?_
          | refine w_rt rfl ?_)
        refine w_call rfl ((sum_any hO.toOffSum rfl hone.2 hS6).mono fun v h7 ⟨⟨r, hv, hr⟩, hE7⟩ => ?_)
        subst hv
        have hr : S[k]? = some r := by
          rcases hr with ⟨h, _⟩ | ⟨_, h⟩
          · simp at h; omega
          · exact h
        have hsvl := hsv.rs.lt
        replace hF := hF.ext0 hE7
        replace hsv := hsv.ext0 hE7
        refine w_chk1 rfl rfl ((hF.at rfl).fadr (d := 4) (by simp)) (V.beq_refl _) ?_
        refine w_build [.int .i64 (.ofNat k), .int .u32 r] rfl (by rfl) ?_
        refine w_push rfl rfl rfl rfl (fun _ => rfl) hsv (by omega) fun a sv' h8 hsv' hf8 => ?_
        have hd8 : i6 ∉ slIds sv := fun e => by have := hsl i6 e; omega
        replace hF := hF.ext hf8.1 hd8
        have hl8 : ∀ jd ∈ slIds sv', h5.n ≤ jd := fun jd hjd => by
          rcases hf8.2 jd hjd with e | e
          · exact hsl jd e
          · have := hE6.1; have := hE7.1; omega
        have hd9 : i6 ∉ slIds sv' := fun e => by have := hl8 i6 e; omega
        repeat' (first
          | refine w_seq ?_
          | refine w_reg ?_
          | refine w_end (by simp only [outsV, nth, setV, List.take_succ_cons, List.take_zero, List.length_cons, List.length_nil, Nat.zero_add, Nat.reduceAdd] <;> rfl) ?_
          | refine w_off rfl ?_
          | refine w_rf rfl (by assumption) (by rfl) (by rfl) (by rfl) ?_
          | refine w_rfg rfl rfl (by assumption) (by rfl) (by rfl) (by rfl) (by rfl) ?_
          | refine w_on rfl ?_
          | refine w_len rfl (by assumption) ?_
          | refine w_lssN rfl rfl (fun hc => ?_) (fun hc => ?_)
          | refine w_leqN rfl rfl (fun hc => ?_) (fun hc => ?_)
          | refine w_gtrN rfl rfl (fun hc => ?_) (fun hc => ?_)
          | refine w_geqN rfl rfl (fun hc => ?_) (fun hc => ?_)
          | refine w_eqlN rfl rfl (fun hc => ?_) (fun hc => ?_)
          | refine w_neqN rfl rfl (fun hc => ?_) (fun hc => ?_)
          | refine w_lss rfl rfl (fun hc => ?_) (fun hc => ?_)
          | refine w_leq rfl rfl (fun hc => ?_) (fun hc => ?_)
          | refine w_gtr rfl rfl (fun hc => ?_) (fun hc => ?_)
          | refine w_geq rfl rfl (fun hc => ?_) (fun hc => ?_)
          | refine w_eql rfl rfl (fun hc => ?_) (fun hc => ?_)
          | refine w_neq rfl rfl (fun hc => ?_) (fun hc => ?_)
          | refine w_addN rfl rfl (by omega) ?_
          | refine w_opk rfl rfl ?_
          | refine w_cond_t rfl ?_
          | refine w_cond_f rfl ?_
          | refine w_skip ?_
          | refine w_exit rfl ?_
          | refine w_ret ?_
          | refine w_rt rfl ?_)
        refine w_store rfl rfl hF (by rw [V.cells1 hsv'.rs.one]; rfl) (by rw [V.cells1 hsv'.rs.one]; simp only [allOne, hsv'.rs.one]) (by decide) (by simp) fun h9 hF9 hE9 _ => ?_
        rw [V.cells1 hsv'.rs.one] at hF9
        repeat' (first
          | refine w_seq ?_
          | refine w_reg ?_
          | refine w_end (by simp only [outsV, nth, setV, List.take_succ_cons, List.take_zero, List.length_cons, List.length_nil, Nat.zero_add, Nat.reduceAdd] <;> rfl) ?_
          | refine w_off rfl ?_
          | refine w_rf rfl (by assumption) (by rfl) (by rfl) (by rfl) ?_
          | refine w_rfg rfl rfl (by assumption) (by rfl) (by rfl) (by rfl) (by rfl) ?_
          | refine w_on rfl ?_
          | refine w_len rfl (by assumption) ?_
          | refine w_lssN rfl rfl (fun hc => ?_) (fun hc => ?_)
          | refine w_leqN rfl rfl (fun hc => ?_) (fun hc => ?_)
          | refine w_gtrN rfl rfl (fun hc => ?_) (fun hc => ?_)
          | refine w_geqN rfl rfl (fun hc => ?_) (fun hc => ?_)
          | refine w_eqlN rfl rfl (fun hc => ?_) (fun hc => ?_)
          | refine w_neqN rfl rfl (fun hc => ?_) (fun hc => ?_)
          | refine w_lss rfl rfl (fun hc => ?_) (fun hc => ?_)
          | refine w_leq rfl rfl (fun hc => ?_) (fun hc => ?_)
          | refine w_gtr rfl rfl (fun hc => ?_) (fun hc => ?_)
          | refine w_geq rfl rfl (fun hc => ?_) (fun hc => ?_)
          | refine w_eql rfl rfl (fun hc => ?_) (fun hc => ?_)
          | refine w_neq rfl rfl (fun hc => ?_) (fun hc => ?_)
          | refine w_addN rfl rfl (by omega) ?_
          | refine w_opk rfl rfl ?_
          | refine w_cond_t rfl ?_
          | refine w_cond_f rfl ?_
          | refine w_skip ?_
          | refine w_exit rfl ?_
          | refine w_ret ?_
          | refine w_rt rfl ?_)
        refine ⟨by omega, sv', _, ⟨_, _, _, _, _, _, _, _, _, rfl⟩, ?_, hF9, hsv'.ext hE9 (fun jd hjd => by simp; intro e; exact hd9 (e ▸ hjd)), hl8, by simp [hl], ?_⟩
        · refine ((hE6.trans (hE7.mono (by simp))).step hf8.1 fun jd hjd => .inr (hsl jd hjd)).step hE9 fun jd hjd => .inl hjd
        · intro c hc
          rcases List.mem_append.1 hc with hc | hc
          · exact hg c hc
          · simp at hc; subst hc
            exact ⟨k, r, rfl, hr⟩
      · exact ⟨j, sv, l, by omega, ⟨_, _, _, _, _, _, _, _, _, rfl⟩, hE6, hF, hsv, hsl, hl, hg⟩
      · exact ⟨j, sv, l, by omega, ⟨_, _, _, _, _, _, _, _, _, rfl⟩, hE6, hF, hsv, hsl, hl, hg⟩
    · rintro vs h ⟨j, sv, l, hj, ⟨a5, a7, b, w, a11, a12, a14, a15, a16, rfl⟩, hE6, hF, hsv, hsl, hl, hg⟩
      have E6 : Ext h0 h := E5.step hE6 fun jd hjd => by simp at hjd; exact .inr (by omega)
      have hM6 := hM.ext hE6 (by simp; omega)
      have hX6 := hX.ext hE6 (by simp; omega)
      have hS6 := hS0.ext E6
      have hfs6 := hS6.1
      have hall : l.all (needC S) = true := List.all_eq_true.2 fun c hc => (hg c hc).ok
      clear hM hX hs1
      repeat' (first
        | refine w_seq ?_
        | refine w_reg ?_
        | refine w_end (by simp only [outsV, nth, setV, List.take_succ_cons, List.take_zero, List.length_cons, List.length_nil, Nat.zero_add, Nat.reduceAdd] <;> rfl) ?_
        | refine w_off rfl ?_
        | refine w_rf rfl (by assumption) (by rfl) (by rfl) (by rfl) ?_
        | refine w_rfg rfl rfl (by assumption) (by rfl) (by rfl) (by rfl) (by rfl) ?_
        | refine w_on rfl ?_
        | refine w_len rfl (by assumption) ?_
        | refine w_lssN rfl rfl (fun hc => ?_) (fun hc => ?_)
        | refine w_leqN rfl rfl (fun hc => ?_) (fun hc => ?_)
        | refine w_gtrN rfl rfl (fun hc => ?_) (fun hc => ?_)
        | refine w_geqN rfl rfl (fun hc => ?_) (fun hc => ?_)
        | refine w_eqlN rfl rfl (fun hc => ?_) (fun hc => ?_)
        | refine w_neqN rfl rfl (fun hc => ?_) (fun hc => ?_)
        | refine w_lss rfl rfl (fun hc => ?_) (fun hc => ?_)
        | refine w_leq rfl rfl (fun hc => ?_) (fun hc => ?_)
        | refine w_gtr rfl rfl (fun hc => ?_) (fun hc => ?_)
        | refine w_geq rfl rfl (fun hc => ?_) (fun hc => ?_)
        | refine w_eql rfl rfl (fun hc => ?_) (fun hc => ?_)
        | refine w_neq rfl rfl (fun hc => ?_) (fun hc => ?_)
        | refine w_addN rfl rfl (by omega) ?_
        | refine w_opk rfl rfl ?_
        | refine w_cond_t rfl ?_
        | refine w_cond_f rfl ?_
        | refine w_skip ?_
        | refine w_exit rfl ?_
        | refine w_ret ?_
        | refine w_rt rfl ?_)
      refine w_loadA rfl (hM6.at rfl) rfl ?_
      refine w_loadA rfl (hF.at rfl) rfl ?_
      refine w_call rfl ((holds_ok hO.toOffHolds rfl hone.2 hS6 rfl (by simp only [allOne, hsv.rs.one]; rfl) hsv.rs (by omega) (fun c hc => (hg c hc).need)).mono fun v h10 ⟨hv, hE10⟩ => ?_)
      rw [hall] at hv
      subst hv
      replace hM6 := hM6.ext0 hE10
      replace hX6 := hX6.ext0 hE10
      replace hF := hF.ext0 hE10
      replace hsv := hsv.rs.ext0 hE10
      replace hS6 := hS6.ext hE10
      have hfs7 := hS6.1
      have hE7 := hE6.trans (hE10.mono (by simp))
      clear hE6 E6 hfs6 hE10
      repeat' (first
        | refine w_seq ?_
        | refine w_reg ?_
        | refine w_end (by simp only [outsV, nth, setV, List.take_succ_cons, List.take_zero, List.length_cons, List.length_nil, Nat.zero_add, Nat.reduceAdd] <;> rfl) ?_
        | refine w_off rfl ?_
        | refine w_rf rfl (by assumption) (by rfl) (by rfl) (by rfl) ?_
        | refine w_rfg rfl rfl (by assumption) (by rfl) (by rfl) (by rfl) (by rfl) ?_
        | refine w_on rfl ?_
        | refine w_len rfl (by assumption) ?_
        | refine w_lssN rfl rfl (fun hc => ?_) (fun hc => ?_)
        | refine w_leqN rfl rfl (fun hc => ?_) (fun hc => ?_)
        | refine w_gtrN rfl rfl (fun hc => ?_) (fun hc => ?_)
        | refine w_geqN rfl rfl (fun hc => ?_) (fun hc => ?_)
        | refine w_eqlN rfl rfl (fun hc => ?_) (fun hc => ?_)
        | refine w_neqN rfl rfl (fun hc => ?_) (fun hc => ?_)
        | refine w_lss rfl rfl (fun hc => ?_) (fun hc => ?_)
        | refine w_leq rfl rfl (fun hc => ?_) (fun hc => ?_)
        | refine w_gtr rfl rfl (fun hc => ?_) (fun hc => ?_)
        | refine w_geq rfl rfl (fun hc => ?_) (fun hc => ?_)
        | refine w_eql rfl rfl (fun hc => ?_) (fun hc => ?_)
        | refine w_neq rfl rfl (fun hc => ?_) (fun hc => ?_)
        | refine w_addN rfl rfl (by omega) ?_
        | refine w_opk rfl rfl ?_
        | refine w_cond_t rfl ?_
        | refine w_cond_f rfl ?_
        | refine w_skip ?_
        | refine w_exit rfl ?_
        | refine w_ret ?_
        | refine w_rt rfl ?_)
      · refine w_aw hO ?_
        repeat' (first
          | refine w_seq ?_
          | refine w_reg ?_
          | refine w_end (by simp only [outsV, nth, setV, List.take_succ_cons, List.take_zero, List.length_cons, List.length_nil, Nat.zero_add, Nat.reduceAdd] <;> rfl) ?_
          | refine w_off rfl ?_
          | refine w_rf rfl (by assumption) (by rfl) (by rfl) (by rfl) ?_
          | refine w_rfg rfl rfl (by assumption) (by rfl) (by rfl) (by rfl) (by rfl) ?_
          | refine w_on rfl ?_
          | refine w_len rfl (by assumption) ?_
          | refine w_lssN rfl rfl (fun hc => ?_) (fun hc => ?_)
          | refine w_leqN rfl rfl (fun hc => ?_) (fun hc => ?_)
          | refine w_gtrN rfl rfl (fun hc => ?_) (fun hc => ?_)
          | refine w_geqN rfl rfl (fun hc => ?_) (fun hc => ?_)
          | refine w_eqlN rfl rfl (fun hc => ?_) (fun hc => ?_)
          | refine w_neqN rfl rfl (fun hc => ?_) (fun hc => ?_)
          | refine w_lss rfl rfl (fun hc => ?_) (fun hc => ?_)
          | refine w_leq rfl rfl (fun hc => ?_) (fun hc => ?_)
          | refine w_gtr rfl rfl (fun hc => ?_) (fun hc => ?_)
          | refine w_geq rfl rfl (fun hc => ?_) (fun hc => ?_)
          | refine w_eql rfl rfl (fun hc => ?_) (fun hc => ?_)
          | refine w_neq rfl rfl (fun hc => ?_) (fun hc => ?_)
          | refine w_addN rfl rfl (by omega) ?_
          | refine w_opk rfl rfl ?_
          | refine w_cond_t rfl ?_
          | refine w_cond_f rfl ?_
          | refine w_skip ?_
          | refine w_exit rfl ?_
          | refine w_ret ?_
          | refine w_rt rfl ?_)
        rfl
      have hl0 : 0 < l.length := Nat.pos_of_ne_zero hc
      refine w_load1 rfl (hX6.at rfl) rfl ?_
      repeat' (first
        | refine w_seq ?_
        | refine w_reg ?_
        | refine w_end (by simp only [outsV, nth, setV, List.take_succ_cons, List.take_zero, List.length_cons, List.length_nil, Nat.zero_add, Nat.reduceAdd] <;> rfl) ?_
        | refine w_off rfl ?_
        | refine w_rf rfl (by assumption) (by rfl) (by rfl) (by rfl) ?_
        | refine w_rfg rfl rfl (by assumption) (by rfl) (by rfl) (by rfl) (by rfl) ?_
        | refine w_on rfl ?_
        | refine w_len rfl (by assumption) ?_
        | refine w_lssN rfl rfl (fun hc => ?_) (fun hc => ?_)
        | refine w_leqN rfl rfl (fun hc => ?_) (fun hc => ?_)
        | refine w_gtrN rfl rfl (fun hc => ?_) (fun hc => ?_)
        | refine w_geqN rfl rfl (fun hc => ?_) (fun hc => ?_)
        | refine w_eqlN rfl rfl (fun hc => ?_) (fun hc => ?_)
        | refine w_neqN rfl rfl (fun hc => ?_) (fun hc => ?_)
        | refine w_lss rfl rfl (fun hc => ?_) (fun hc => ?_)
        | refine w_leq rfl rfl (fun hc => ?_) (fun hc => ?_)
        | refine w_gtr rfl rfl (fun hc => ?_) (fun hc => ?_)
        | refine w_geq rfl rfl (fun hc => ?_) (fun hc => ?_)
        | refine w_eql rfl rfl (fun hc => ?_) (fun hc => ?_)
        | refine w_neq rfl rfl (fun hc => ?_) (fun hc => ?_)
        | refine w_addN rfl rfl (by omega) ?_
        | refine w_opk rfl rfl ?_
        | refine w_cond_t rfl ?_
        | refine w_cond_f rfl ?_
        | refine w_skip ?_
        | refine w_exit rfl ?_
        | refine w_ret ?_
        | refine w_rt rfl ?_)
      refine w_call rfl ((pick_ok hO.pick hl0 (by omega)).mono fun v h11 ⟨⟨k2, hv, hk2⟩, hh⟩ => ?_)
      subst hv hh
      repeat' (first
        | refine w_seq ?_
        | refine w_reg ?_
        | refine w_end (by simp only [outsV, nth, setV, List.take_succ_cons, List.take_zero, List.length_cons, List.length_nil, Nat.zero_add, Nat.reduceAdd] <;> rfl) ?_
        | refine w_off rfl ?_
        | refine w_rf rfl (by assumption) (by rfl) (by rfl) (by rfl) ?_
        | refine w_rfg rfl rfl (by assumption) (by rfl) (by rfl) (by rfl) (by rfl) ?_
        | refine w_on rfl ?_
        | refine w_len rfl (by assumption) ?_
        | refine w_lssN rfl rfl (fun hc => ?_) (fun hc => ?_)
        | refine w_leqN rfl rfl (fun hc => ?_) (fun hc => ?_)
        | refine w_gtrN rfl rfl (fun hc => ?_) (fun hc => ?_)
        | refine w_geqN rfl rfl (fun hc => ?_) (fun hc => ?_)
        | refine w_eqlN rfl rfl (fun hc => ?_) (fun hc => ?_)
        | refine w_neqN rfl rfl (fun hc => ?_) (fun hc => ?_)
        | refine w_lss rfl rfl (fun hc => ?_) (fun hc => ?_)
        | refine w_leq rfl rfl (fun hc => ?_) (fun hc => ?_)
        | refine w_gtr rfl rfl (fun hc => ?_) (fun hc => ?_)
        | refine w_geq rfl rfl (fun hc => ?_) (fun hc => ?_)
        | refine w_eql rfl rfl (fun hc => ?_) (fun hc => ?_)
        | refine w_neq rfl rfl (fun hc => ?_) (fun hc => ?_)
        | refine w_addN rfl rfl (by omega) ?_
        | refine w_opk rfl rfl ?_
        | refine w_cond_t rfl ?_
        | refine w_cond_f rfl ?_
        | refine w_skip ?_
        | refine w_exit rfl ?_
        | refine w_ret ?_
        | refine w_rt rfl ?_)
      refine w_loadA rfl (hF.at rfl) rfl ?_
      refine w_new (fun _ => rfl) rfl rfl (by simp only [V.cells, List.take_succ_cons, List.take_zero, allOne, hsv.one]; rfl) fun i14 h12 hG hi14 hE12 => ?_
      replace hG : Own h12 i14 [nI 0, nI 0, .nils, .nils, sv] := hG
      have hF6 := hF.1
      have hM7 := hM6.1
      have hX7 := hX6.1
      have hsvlt := hsv.lt
      replace hM6 := hM6.ext0 hE12
      replace hX6 := hX6.ext0 hE12
      replace hF := hF.ext0 hE12
      replace hsv := hsv.ext0 hE12
      replace hS6 := hS6.ext hE12
      have hG12 := hG.1
      repeat' (first
        | refine w_seq ?_
        | refine w_reg ?_
        | refine w_end (by simp only [outsV, nth, setV, List.take_succ_cons, List.take_zero, List.length_cons, List.length_nil, Nat.zero_add, Nat.reduceAdd] <;> rfl) ?_
        | refine w_off rfl ?_
        | refine w_rf rfl (by assumption) (by rfl) (by rfl) (by rfl) ?_
        | refine w_rfg rfl rfl (by assumption) (by rfl) (by rfl) (by rfl) (by rfl) ?_
        | refine w_on rfl ?_
        | refine w_len rfl (by assumption) ?_
        | refine w_lssN rfl rfl (fun hc => ?_) (fun hc => ?_)
        | refine w_leqN rfl rfl (fun hc => ?_) (fun hc => ?_)
        | refine w_gtrN rfl rfl (fun hc => ?_) (fun hc => ?_)
        | refine w_geqN rfl rfl (fun hc => ?_) (fun hc => ?_)
        | refine w_eqlN rfl rfl (fun hc => ?_) (fun hc => ?_)
        | refine w_neqN rfl rfl (fun hc => ?_) (fun hc => ?_)
        | refine w_lss rfl rfl (fun hc => ?_) (fun hc => ?_)
        | refine w_leq rfl rfl (fun hc => ?_) (fun hc => ?_)
        | refine w_gtr rfl rfl (fun hc => ?_) (fun hc => ?_)
        | refine w_geq rfl rfl (fun hc => ?_) (fun hc => ?_)
        | refine w_eql rfl rfl (fun hc => ?_) (fun hc => ?_)
        | refine w_neq rfl rfl (fun hc => ?_) (fun hc => ?_)
        | refine w_addN rfl rfl (by omega) ?_
        | refine w_opk rfl rfl ?_
        | refine w_cond_t rfl ?_
        | refine w_cond_f rfl ?_
        | refine w_skip ?_
        | refine w_exit rfl ?_
        | refine w_ret ?_
        | refine w_rt rfl ?_)
      refine w_bslice [] rfl (by rfl) rfl rfl (by simp) fun e0 h13 he0 hf13 => ?_
      have hE13 := hf13.ext0
      replace hM6 := hM6.ext0 hE13
      replace hX6 := hX6.ext0 hE13
      replace hF := hF.ext0 hE13
      replace hsv := hsv.ext0 hE13
      replace hS6 := hS6.ext hE13
      replace hG := hG.ext0 hE13
      repeat' (first
        | refine w_seq ?_
        | refine w_reg ?_
        | refine w_end (by simp only [outsV, nth, setV, List.take_succ_cons, List.take_zero, List.length_cons, List.length_nil, Nat.zero_add, Nat.reduceAdd] <;> rfl) ?_
        | refine w_off rfl ?_
        | refine w_rf rfl (by assumption) (by rfl) (by rfl) (by rfl) ?_
        | refine w_rfg rfl rfl (by assumption) (by rfl) (by rfl) (by rfl) (by rfl) ?_
        | refine w_on rfl ?_
        | refine w_len rfl (by assumption) ?_
        | refine w_lssN rfl rfl (fun hc => ?_) (fun hc => ?_)
        | refine w_leqN rfl rfl (fun hc => ?_) (fun hc => ?_)
        | refine w_gtrN rfl rfl (fun hc => ?_) (fun hc => ?_)
        | refine w_geqN rfl rfl (fun hc => ?_) (fun hc => ?_)
        | refine w_eqlN rfl rfl (fun hc => ?_) (fun hc => ?_)
        | refine w_neqN rfl rfl (fun hc => ?_) (fun hc => ?_)
        | refine w_lss rfl rfl (fun hc => ?_) (fun hc => ?_)
        | refine w_leq rfl rfl (fun hc => ?_) (fun hc => ?_)
        | refine w_gtr rfl rfl (fun hc => ?_) (fun hc => ?_)
        | refine w_geq rfl rfl (fun hc => ?_) (fun hc => ?_)
        | refine w_eql rfl rfl (fun hc => ?_) (fun hc => ?_)
        | refine w_neq rfl rfl (fun hc => ?_) (fun hc => ?_)
        | refine w_addN rfl rfl (by omega) ?_
        | refine w_opk rfl rfl ?_
        | refine w_cond_t rfl ?_
        | refine w_cond_f rfl ?_
        | refine w_skip ?_
        | refine w_exit rfl ?_
        | refine w_ret ?_
        | refine w_rt rfl ?_)
      refine w_app rfl rfl he0 hsv (by simp; omega) fun sv2 h14 hsv2 hf14 => ?_
      have hn0 : ∀ jd ∈ slIds e0, h12.n ≤ jd := fun jd hjd => by
        rcases hf13.2 jd hjd with e | e
        · cases e
        · exact e
      have hn2 : ∀ jd ∈ slIds sv2, h12.n ≤ jd := fun jd hjd => by
        rcases hf14.2 jd hjd with e | e
        · exact hn0 jd e
        · have := hE13.1; omega
      have hE12' := hE12.1
      have hmv : Ext h12 h14 := hE13.step hf14.1 fun jd hjd => .inr (hn0 jd hjd)
      rw [List.nil_append] at hsv2
      replace hM6 := hM6.ext hf14.1 (fun e => by have := hn0 im e; omega)
      replace hX6 := hX6.ext hf14.1 (fun e => by have := hn0 ix e; omega)
      replace hF := hF.ext hf14.1 (fun e => by have := hn0 i6 e; omega)
      replace hG := hG.ext hf14.1 (fun e => by have := hn0 i14 e; omega)
      replace hsv := hsv.ext hf14.1 (fun jd off len ver e f hv => fun hjd => by
        have := hsvlt jd (by rw [hv]; simp [slIds])
        have := hn0 jd hjd
        omega)
      have hEa : Ext h0 h14 := by
        have e5 : Ext h0 h12 := ((E5.step hE7 fun jd hjd => by simp at hjd; exact .inr (by omega))).trans hE12
        exact e5.trans hmv
      replace hS6 := hS0.ext hEa
      repeat' (first
        | refine w_seq ?_
        | refine w_reg ?_
        | refine w_end (by simp only [outsV, nth, setV, List.take_succ_cons, List.take_zero, List.length_cons, List.length_nil, Nat.zero_add, Nat.reduceAdd] <;> rfl) ?_
        | refine w_off rfl ?_
        | refine w_rf rfl (by assumption) (by rfl) (by rfl) (by rfl) ?_
        | refine w_rfg rfl rfl (by assumption) (by rfl) (by rfl) (by rfl) (by rfl) ?_
        | refine w_on rfl ?_
        | refine w_len rfl (by assumption) ?_
        | refine w_lssN rfl rfl (fun hc => ?_) (fun hc => ?_)
        | refine w_leqN rfl rfl (fun hc => ?_) (fun hc => ?_)
        | refine w_gtrN rfl rfl (fun hc => ?_) (fun hc => ?_)
        | refine w_geqN rfl rfl (fun hc => ?_) (fun hc => ?_)
        | refine w_eqlN rfl rfl (fun hc => ?_) (fun hc => ?_)
        | refine w_neqN rfl rfl (fun hc => ?_) (fun hc => ?_)
        | refine w_lss rfl rfl (fun hc => ?_) (fun hc => ?_)
        | refine w_leq rfl rfl (fun hc => ?_) (fun hc => ?_)
        | refine w_gtr rfl rfl (fun hc => ?_) (fun hc => ?_)
        | refine w_geq rfl rfl (fun hc => ?_) (fun hc => ?_)
        | refine w_eql rfl rfl (fun hc => ?_) (fun hc => ?_)
        | refine w_neq rfl rfl (fun hc => ?_) (fun hc => ?_)
        | refine w_addN rfl rfl (by omega) ?_
        | refine w_opk rfl rfl ?_
        | refine w_cond_t rfl ?_
        | refine w_cond_f rfl ?_
        | refine w_skip ?_
        | refine w_exit rfl ?_
        | refine w_ret ?_
        | refine w_rt rfl ?_)
      refine w_store rfl rfl hG (by rw [V.cells1 hsv2.rs.one]; rfl) (by rw [V.cells1 hsv2.rs.one]; simp only [allOne, hsv2.rs.one]) (by decide) (by simp) fun h15 hG15 hE15 _ => ?_
      rw [V.cells1 hsv2.rs.one] at hG15
      replace hG15 : Own h15 i14 [nI 0, nI 0, .nils, .nils, sv2] := hG15
      have hni : im ≠ i14 ∧ ix ≠ i14 ∧ i6 ≠ i14 := by omega
      replace hM6 := hM6.ext hE15 (by simp; omega)
      replace hX6 := hX6.ext hE15 (by simp; omega)
      replace hF := hF.ext hE15 (by simp; omega)
      replace hsv2 := hsv2.ext hE15 (fun jd hjd => by have := hn2 jd hjd; simp; omega)
      replace hsv := hsv.ext hE15 (fun jd off len ver e f hv => by
        have := hsvlt jd (by rw [hv]; simp [slIds])
        simp; omega)
      have hi140 : h0.n ≤ i14 := by have := hE7.1; have := E5.1; omega
      have hEb : Ext h0 h15 := hEa.step hE15 fun jd hjd => by simp at hjd; exact .inr (by omega)
      replace hS6 := hS0.ext hEb
      have hfs8 := hS6.1
      repeat' (first
        | refine w_seq ?_
        | refine w_reg ?_
        | refine w_end (by simp only [outsV, nth, setV, List.take_succ_cons, List.take_zero, List.length_cons, List.length_nil, Nat.zero_add, Nat.reduceAdd] <;> rfl) ?_
        | refine w_off rfl ?_
        | refine w_rf rfl (by assumption) (by rfl) (by rfl) (by rfl) ?_
        | refine w_rfg rfl rfl (by assumption) (by rfl) (by rfl) (by rfl) (by rfl) ?_
        | refine w_on rfl ?_
        | refine w_len rfl (by assumption) ?_
        | refine w_lssN rfl rfl (fun hc => ?_) (fun hc => ?_)
        | refine w_leqN rfl rfl (fun hc => ?_) (fun hc => ?_)
        | refine w_gtrN rfl rfl (fun hc => ?_) (fun hc => ?_)
        | refine w_geqN rfl rfl (fun hc => ?_) (fun hc => ?_)
        | refine w_eqlN rfl rfl (fun hc => ?_) (fun hc => ?_)
        | refine w_neqN rfl rfl (fun hc => ?_) (fun hc => ?_)
        | refine w_lss rfl rfl (fun hc => ?_) (fun hc => ?_)
        | refine w_leq rfl rfl (fun hc => ?_) (fun hc => ?_)
        | refine w_gtr rfl rfl (fun hc => ?_) (fun hc => ?_)
        | refine w_geq rfl rfl (fun hc => ?_) (fun hc => ?_)
        | refine w_eql rfl rfl (fun hc => ?_) (fun hc => ?_)
        | refine w_neq rfl rfl (fun hc => ?_) (fun hc => ?_)
        | refine w_addN rfl rfl (by omega) ?_
        | refine w_opk rfl rfl ?_
        | refine w_cond_t rfl ?_
        | refine w_cond_f rfl ?_
        | refine w_skip ?_
        | refine w_exit rfl ?_
        | refine w_ret ?_
        | refine w_rt rfl ?_)
      refine w_load1 (c := []) rfl ((hX6.at rfl).fadr (d := 1) (by simp [V.cells])) rfl ?_
      refine w_rem rfl rfl (by decide) ?_
      obtain ⟨kk, rr, hl2, hrr⟩ := hg _ (List.getElem_mem hk2)
      have hg2 : i14 ∉ slIds sv2 := fun e => by have := hn2 i14 e; omega
      have e0 : Int.ofNat lf.length = (lf.length : Int) := rfl
      repeat' (first
        | refine w_seq ?_
        | refine w_reg ?_
        | refine w_end (by simp only [outsV, nth, setV, List.take_succ_cons, List.take_zero, List.length_cons, List.length_nil, Nat.zero_add, Nat.reduceAdd] <;> rfl) ?_
        | refine w_off rfl ?_
        | refine w_rf rfl (by assumption) (by rfl) (by rfl) (by rfl) ?_
        | refine w_rfg rfl rfl (by assumption) (by rfl) (by rfl) (by rfl) (by rfl) ?_
        | refine w_on rfl ?_
        | refine w_len rfl (by assumption) ?_
        | refine w_lssN rfl rfl (fun hc => ?_) (fun hc => ?_)
        | refine w_leqN rfl rfl (fun hc => ?_) (fun hc => ?_)
        | refine w_gtrN rfl rfl (fun hc => ?_) (fun hc => ?_)
        | refine w_geqN rfl rfl (fun hc => ?_) (fun hc => ?_)
        | refine w_eqlN rfl rfl (fun hc => ?_) (fun hc => ?_)
        | refine w_neqN rfl rfl (fun hc => ?_) (fun hc => ?_)
        | refine w_lss rfl rfl (fun hc => ?_) (fun hc => ?_)
        | refine w_leq rfl rfl (fun hc => ?_) (fun hc => ?_)
        | refine w_gtr rfl rfl (fun hc => ?_) (fun hc => ?_)
        | refine w_geq rfl rfl (fun hc => ?_) (fun hc => ?_)
        | refine w_eql rfl rfl (fun hc => ?_) (fun hc => ?_)
        | refine w_neq rfl rfl (fun hc => ?_) (fun hc => ?_)
        | refine w_addN rfl rfl (by omega) ?_
        | refine w_opk rfl rfl ?_
        | refine w_cond_t rfl ?_
        | refine w_cond_f rfl ?_
        | refine w_skip ?_
        | refine w_exit rfl ?_
        | refine w_ret ?_
        | refine w_rt rfl ?_)
      · refine w_iadr rfl rfl hsv2.rs hk2 fun p hp => ?_
        rw [hl2] at hp
        refine w_fadr rfl hp rfl fun hp2 => ?_
        refine w_load1 (c := []) rfl hp2 rfl ?_
        repeat' (first
          | refine w_seq ?_
          | refine w_reg ?_
          | refine w_end (by simp only [outsV, nth, setV, List.take_succ_cons, List.take_zero, List.length_cons, List.length_nil, Nat.zero_add, Nat.reduceAdd] <;> rfl) ?_
          | refine w_off rfl ?_
          | refine w_rf rfl (by assumption) (by rfl) (by rfl) (by rfl) ?_
          | refine w_rfg rfl rfl (by assumption) (by rfl) (by rfl) (by rfl) (by rfl) ?_
          | refine w_on rfl ?_
          | refine w_len rfl (by assumption) ?_
          | refine w_lssN rfl rfl (fun hc => ?_) (fun hc => ?_)
          | refine w_leqN rfl rfl (fun hc => ?_) (fun hc => ?_)
          | refine w_gtrN rfl rfl (fun hc => ?_) (fun hc => ?_)
          | refine w_geqN rfl rfl (fun hc => ?_) (fun hc => ?_)
          | refine w_eqlN rfl rfl (fun hc => ?_) (fun hc => ?_)
          | refine w_neqN rfl rfl (fun hc => ?_) (fun hc => ?_)
          | refine w_lss rfl rfl (fun hc => ?_) (fun hc => ?_)
          | refine w_leq rfl rfl (fun hc => ?_) (fun hc => ?_)
          | refine w_gtr rfl rfl (fun hc => ?_) (fun hc => ?_)
          | refine w_geq rfl rfl (fun hc => ?_) (fun hc => ?_)
          | refine w_eql rfl rfl (fun hc => ?_) (fun hc => ?_)
          | refine w_neq rfl rfl (fun hc => ?_) (fun hc => ?_)
          | refine w_addN rfl rfl (by omega) ?_
          | refine w_opk rfl rfl ?_
          | refine w_cond_t rfl ?_
          | refine w_cond_f rfl ?_
          | refine w_skip ?_
          | refine w_exit rfl ?_
          | refine w_ret ?_
          | refine w_rt rfl ?_)
        refine w_setF rfl rfl (fun _ _ => rfl) hsv2 hk2 rfl (by decide) rfl fun p q h16 hsv3 hE16 _ => ?_
        rw [hl2] at hsv3
        replace hsv3 : Ow h16 2 sv2 (l.set k2 [.int .i64 (.ofNat kk), .int .u32 (wrapK .u32 (Int.add rr (Int.ofNat 1)))]) := hsv3
        have hbad : needC S [.int .i64 (.ofNat kk), .int .u32 (wrapK .u32 (Int.add rr (Int.ofNat 1)))] = false := by
          refine decide_eq_false fun h => ?_
          have h2 := h.2
          rw [show (Int.ofNat kk).toNat = kk from rfl, hrr] at h2
          simp only [Option.some.injEq] at h2
          rw [wrapK_eq] at h2
          simp only [IntKind.wrap, IntKind.signed, IntKind.bits, Bool.false_and, Bool.false_eq_true, if_false] at h2
          have e1 : Int.add rr (Int.ofNat 1) = rr + 1 := rfl
          rw [e1] at h2
          omega
        have hall3 := set_false hk2 hbad
        have hnd3 := set_need (k := k2) hg (c := [.int .i64 (.ofNat kk), .int .u32 (wrapK .u32 (Int.add rr (Int.ofNat 1)))]) ⟨_, _, rfl⟩
        replace hM6 := hM6.ext hE16 (fun e => by have := hn2 im e; omega)
        replace hF := hF.ext hE16 (fun e => by have := hn2 i6 e; omega)
        replace hG15 := hG15.ext hE16 (fun e => hg2 e)
        replace hsv := hsv.ext hE16 (fun jd off len ver e f hv => fun hjd => by
          have := hsvlt jd (by rw [hv]; simp [slIds])
          have := hn2 jd hjd
          omega)
        have hEc : Ext h0 h16 := hEb.step hE16 fun jd hjd => .inr (by have := hn2 jd hjd; have := hE7.1; have := E5.1; omega)
        replace hS6 := hS0.ext hEc
        repeat' (first
          | refine w_seq ?_
          | refine w_reg ?_
          | refine w_end (by simp only [outsV, nth, setV, List.take_succ_cons, List.take_zero, List.length_cons, List.length_nil, Nat.zero_add, Nat.reduceAdd] <;> rfl) ?_
          | refine w_off rfl ?_
          | refine w_rf rfl (by assumption) (by rfl) (by rfl) (by rfl) ?_
          | refine w_rfg rfl rfl (by assumption) (by rfl) (by rfl) (by rfl) (by rfl) ?_
          | refine w_on rfl ?_
          | refine w_len rfl (by assumption) ?_
          | refine w_lssN rfl rfl (fun hc => ?_) (fun hc => ?_)
          | refine w_leqN rfl rfl (fun hc => ?_) (fun hc => ?_)
          | refine w_gtrN rfl rfl (fun hc => ?_) (fun hc => ?_)
          | refine w_geqN rfl rfl (fun hc => ?_) (fun hc => ?_)
          | refine w_eqlN rfl rfl (fun hc => ?_) (fun hc => ?_)
          | refine w_neqN rfl rfl (fun hc => ?_) (fun hc => ?_)
          | refine w_lss rfl rfl (fun hc => ?_) (fun hc => ?_)
          | refine w_leq rfl rfl (fun hc => ?_) (fun hc => ?_)
          | refine w_gtr rfl rfl (fun hc => ?_) (fun hc => ?_)
          | refine w_geq rfl rfl (fun hc => ?_) (fun hc => ?_)
          | refine w_eql rfl rfl (fun hc => ?_) (fun hc => ?_)
          | refine w_neq rfl rfl (fun hc => ?_) (fun hc => ?_)
          | refine w_addN rfl rfl (by omega) ?_
          | refine w_opk rfl rfl ?_
          | refine w_cond_t rfl ?_
          | refine w_cond_f rfl ?_
          | refine w_skip ?_
          | refine w_exit rfl ?_
          | refine w_ret ?_
          | refine w_rt rfl ?_)
        refine w_loadA rfl (hM6.at rfl) rfl ?_
        refine w_loadA rfl (hG15.at rfl) rfl ?_
        refine w_call rfl ((holds_ok hO.toOffHolds rfl hone.2 hS6 rfl (by simp only [allOne, hsv3.rs.one]; rfl) hsv3.rs (by simp; omega) hnd3).mono fun v h17 ⟨hv, hE17⟩ => ?_)
        rw [hall3] at hv
        subst hv
        replace hM6 := hM6.ext0 hE17
        replace hF := hF.ext0 hE17
        replace hsv := hsv.ext0 hE17
        replace hS6 := hS6.ext hE17
        repeat' (first
          | refine w_seq ?_
          | refine w_reg ?_
          | refine w_end (by simp only [outsV, nth, setV, List.take_succ_cons, List.take_zero, List.length_cons, List.length_nil, Nat.zero_add, Nat.reduceAdd] <;> rfl) ?_
          | refine w_off rfl ?_
          | refine w_rf rfl (by assumption) (by rfl) (by rfl) (by rfl) ?_
          | refine w_rfg rfl rfl (by assumption) (by rfl) (by rfl) (by rfl) (by rfl) ?_
          | refine w_on rfl ?_
          | refine w_len rfl (by assumption) ?_
          | refine w_lssN rfl rfl (fun hc => ?_) (fun hc => ?_)
          | refine w_leqN rfl rfl (fun hc => ?_) (fun hc => ?_)
          | refine w_gtrN rfl rfl (fun hc => ?_) (fun hc => ?_)
          | refine w_geqN rfl rfl (fun hc => ?_) (fun hc => ?_)
          | refine w_eqlN rfl rfl (fun hc => ?_) (fun hc => ?_)
          | refine w_neqN rfl rfl (fun hc => ?_) (fun hc => ?_)
          | refine w_lss rfl rfl (fun hc => ?_) (fun hc => ?_)
          | refine w_leq rfl rfl (fun hc => ?_) (fun hc => ?_)
          | refine w_gtr rfl rfl (fun hc => ?_) (fun hc => ?_)
          | refine w_geq rfl rfl (fun hc => ?_) (fun hc => ?_)
          | refine w_eql rfl rfl (fun hc => ?_) (fun hc => ?_)
          | refine w_neq rfl rfl (fun hc => ?_) (fun hc => ?_)
          | refine w_addN rfl rfl (by omega) ?_
          | refine w_opk rfl rfl ?_
          | refine w_cond_t rfl ?_
          | refine w_cond_f rfl ?_
          | refine w_skip ?_
          | refine w_exit rfl ?_
          | refine w_ret ?_
          | refine w_rt rfl ?_)
        refine w_loadA rfl (hM6.at rfl) rfl ?_
        refine w_on rfl ?_
        refine w_loadA rfl (hF.at rfl) rfl ?_
        refine w_on rfl ?_
        refine w_call rfl ((holds_ok hO.toOffHolds rfl hone.2 hS6 rfl (by simp only [allOne, hsv.one]; rfl) hsv (by omega) (fun c hc => (hg c hc).need)).mono fun v h18 ⟨hv, hE18⟩ => ?_)
        rw [hall] at hv
        subst hv
        repeat' (first
          | refine w_seq ?_
          | refine w_reg ?_
          | refine w_end (by simp only [outsV, nth, setV, List.take_succ_cons, List.take_zero, List.length_cons, List.length_nil, Nat.zero_add, Nat.reduceAdd] <;> rfl) ?_
          | refine w_off rfl ?_
          | refine w_rf rfl (by assumption) (by rfl) (by rfl) (by rfl) ?_
          | refine w_rfg rfl rfl (by assumption) (by rfl) (by rfl) (by rfl) (by rfl) ?_
          | refine w_on rfl ?_
          | refine w_len rfl (by assumption) ?_
          | refine w_lssN rfl rfl (fun hc => ?_) (fun hc => ?_)
          | refine w_leqN rfl rfl (fun hc => ?_) (fun hc => ?_)
          | refine w_gtrN rfl rfl (fun hc => ?_) (fun hc => ?_)
          | refine w_geqN rfl rfl (fun hc => ?_) (fun hc => ?_)
          | refine w_eqlN rfl rfl (fun hc => ?_) (fun hc => ?_)
          | refine w_neqN rfl rfl (fun hc => ?_) (fun hc => ?_)
          | refine w_lss rfl rfl (fun hc => ?_) (fun hc => ?_)
          | refine w_leq rfl rfl (fun hc => ?_) (fun hc => ?_)
          | refine w_gtr rfl rfl (fun hc => ?_) (fun hc => ?_)
          | refine w_geq rfl rfl (fun hc => ?_) (fun hc => ?_)
          | refine w_eql rfl rfl (fun hc => ?_) (fun hc => ?_)
          | refine w_neq rfl rfl (fun hc => ?_) (fun hc => ?_)
          | refine w_addN rfl rfl (by omega) ?_
          | refine w_opk rfl rfl ?_
          | refine w_cond_t rfl ?_
          | refine w_cond_f rfl ?_
          | refine w_skip ?_
          | refine w_exit rfl ?_
          | refine w_ret ?_
          | refine w_rt rfl ?_)
        refine w_aw hO ?_
        repeat' (first
          | refine w_seq ?_
          | refine w_reg ?_
          | refine w_end (by simp only [outsV, nth, setV, List.take_succ_cons, List.take_zero, List.length_cons, List.length_nil, Nat.zero_add, Nat.reduceAdd] <;> rfl) ?_
          | refine w_off rfl ?_
          | refine w_rf rfl (by assumption) (by rfl) (by rfl) (by rfl) ?_
          | refine w_rfg rfl rfl (by assumption) (by rfl) (by rfl) (by rfl) (by rfl) ?_
          | refine w_on rfl ?_
          | refine w_len rfl (by assumption) ?_
          | refine w_lssN rfl rfl (fun hc => ?_) (fun hc => ?_)
          | refine w_leqN rfl rfl (fun hc => ?_) (fun hc => ?_)
          | refine w_gtrN rfl rfl (fun hc => ?_) (fun hc => ?_)
          | refine w_geqN rfl rfl (fun hc => ?_) (fun hc => ?_)
          | refine w_eqlN rfl rfl (fun hc => ?_) (fun hc => ?_)
          | refine w_neqN rfl rfl (fun hc => ?_) (fun hc => ?_)
          | refine w_lss rfl rfl (fun hc => ?_) (fun hc => ?_)
          | refine w_leq rfl rfl (fun hc => ?_) (fun hc => ?_)
          | refine w_gtr rfl rfl (fun hc => ?_) (fun hc => ?_)
          | refine w_geq rfl rfl (fun hc => ?_) (fun hc => ?_)
          | refine w_eql rfl rfl (fun hc => ?_) (fun hc => ?_)
          | refine w_neq rfl rfl (fun hc => ?_) (fun hc => ?_)
          | refine w_addN rfl rfl (by omega) ?_
          | refine w_opk rfl rfl ?_
          | refine w_cond_t rfl ?_
          | refine w_cond_f rfl ?_
          | refine w_skip ?_
          | refine w_exit rfl ?_
          | refine w_ret ?_
          | refine w_rt rfl ?_)
        rfl
      · refine w_setF rfl rfl (fun _ _ => rfl) hsv2 hk2 rfl (by decide) rfl fun p q h16 hsv3 hE16 _ => ?_
        rw [hl2] at hsv3
        replace hsv3 : Ow h16 2 sv2 (l.set k2 [.int .i64 (.ofNat lf.length), .int .u32 rr]) := hsv3
        have hbad : needC S [.int .i64 (.ofNat lf.length), .int .u32 rr] = false := by
          refine decide_eq_false fun h => ?_
          have h2 := h.2
          rw [show (Int.ofNat lf.length).toNat = lf.length from rfl, List.getElem?_eq_none (by rw [hS0.2.1]; omega)] at h2
          cases h2
        have hall3 := set_false hk2 hbad
        have hnd3 := set_need (k := k2) hg (c := [.int .i64 (.ofNat lf.length), .int .u32 rr]) ⟨_, _, rfl⟩
        replace hM6 := hM6.ext hE16 (fun e => by have := hn2 im e; omega)
        replace hF := hF.ext hE16 (fun e => by have := hn2 i6 e; omega)
        replace hG15 := hG15.ext hE16 (fun e => hg2 e)
        replace hsv := hsv.ext hE16 (fun jd off len ver e f hv => fun hjd => by
          have := hsvlt jd (by rw [hv]; simp [slIds])
          have := hn2 jd hjd
          omega)
        have hEc : Ext h0 h16 := hEb.step hE16 fun jd hjd => .inr (by have := hn2 jd hjd; have := hE7.1; have := E5.1; omega)
        replace hS6 := hS0.ext hEc
        repeat' (first
          | refine w_seq ?_
          | refine w_reg ?_
          | refine w_end (by simp only [outsV, nth, setV, List.take_succ_cons, List.take_zero, List.length_cons, List.length_nil, Nat.zero_add, Nat.reduceAdd] <;> rfl) ?_
          | refine w_off rfl ?_
          | refine w_rf rfl (by assumption) (by rfl) (by rfl) (by rfl) ?_
          | refine w_rfg rfl rfl (by assumption) (by rfl) (by rfl) (by rfl) (by rfl) ?_
          | refine w_on rfl ?_
          | refine w_len rfl (by assumption) ?_
          | refine w_lssN rfl rfl (fun hc => ?_) (fun hc => ?_)
          | refine w_leqN rfl rfl (fun hc => ?_) (fun hc => ?_)
          | refine w_gtrN rfl rfl (fun hc => ?_) (fun hc => ?_)
          | refine w_geqN rfl rfl (fun hc => ?_) (fun hc => ?_)
          | refine w_eqlN rfl rfl (fun hc => ?_) (fun hc => ?_)
          | refine w_neqN rfl rfl (fun hc => ?_) (fun hc => ?_)
          | refine w_lss rfl rfl (fun hc => ?_) (fun hc => ?_)
          | refine w_leq rfl rfl (fun hc => ?_) (fun hc => ?_)
          | refine w_gtr rfl rfl (fun hc => ?_) (fun hc => ?_)
          | refine w_geq rfl rfl (fun hc => ?_) (fun hc => ?_)
          | refine w_eql rfl rfl (fun hc => ?_) (fun hc => ?_)
          | refine w_neq rfl rfl (fun hc => ?_) (fun hc => ?_)
          | refine w_addN rfl rfl (by omega) ?_
          | refine w_opk rfl rfl ?_
          | refine w_cond_t rfl ?_
          | refine w_cond_f rfl ?_
          | refine w_skip ?_
          | refine w_exit rfl ?_
          | refine w_ret ?_
          | refine w_rt rfl ?_)
        refine w_loadA rfl (hM6.at rfl) rfl ?_
        refine w_loadA rfl (hG15.at rfl) rfl ?_
        refine w_call rfl ((holds_ok hO.toOffHolds rfl hone.2 hS6 rfl (by simp only [allOne, hsv3.rs.one]; rfl) hsv3.rs (by simp; omega) hnd3).mono fun v h17 ⟨hv, hE17⟩ => ?_)
        rw [hall3] at hv
        subst hv
        replace hM6 := hM6.ext0 hE17
        replace hF := hF.ext0 hE17
        replace hsv := hsv.ext0 hE17
        replace hS6 := hS6.ext hE17
        repeat' (first
          | refine w_seq ?_
          | refine w_reg ?_
          | refine w_end (by simp only [outsV, nth, setV, List.take_succ_cons, List.take_zero, List.length_cons, List.length_nil, Nat.zero_add, Nat.reduceAdd] <;> rfl) ?_
          | refine w_off rfl ?_
          | refine w_rf rfl (by assumption) (by rfl) (by rfl) (by rfl) ?_
          | refine w_rfg rfl rfl (by assumption) (by rfl) (by rfl) (by rfl) (by rfl) ?_
          | refine w_on rfl ?_
          | refine w_len rfl (by assumption) ?_
          | refine w_lssN rfl rfl (fun hc => ?_) (fun hc => ?_)
          | refine w_leqN rfl rfl (fun hc => ?_) (fun hc => ?_)
          | refine w_gtrN rfl rfl (fun hc => ?_) (fun hc => ?_)
          | refine w_geqN rfl rfl (fun hc => ?_) (fun hc => ?_)
          | refine w_eqlN rfl rfl (fun hc => ?_) (fun hc => ?_)
          | refine w_neqN rfl rfl (fun hc => ?_) (fun hc => ?_)
          | refine w_lss rfl rfl (fun hc => ?_) (fun hc => ?_)
          | refine w_leq rfl rfl (fun hc => ?_) (fun hc => ?_)
          | refine w_gtr rfl rfl (fun hc => ?_) (fun hc => ?_)
          | refine w_geq rfl rfl (fun hc => ?_) (fun hc => ?_)
          | refine w_eql rfl rfl (fun hc => ?_) (fun hc => ?_)
          | refine w_neq rfl rfl (fun hc => ?_) (fun hc => ?_)
          | refine w_addN rfl rfl (by omega) ?_
          | refine w_opk rfl rfl ?_
          | refine w_cond_t rfl ?_
          | refine w_cond_f rfl ?_
          | refine w_skip ?_
          | refine w_exit rfl ?_
          | refine w_ret ?_
          | refine w_rt rfl ?_)
        refine w_loadA rfl (hM6.at rfl) rfl ?_
        refine w_on rfl ?_
        refine w_loadA rfl (hF.at rfl) rfl ?_
        refine w_on rfl ?_
        refine w_call rfl ((holds_ok hO.toOffHolds rfl hone.2 hS6 rfl (by simp only [allOne, hsv.one]; rfl) hsv (by omega) (fun c hc => (hg c hc).need)).mono fun v h18 ⟨hv, hE18⟩ => ?_)
        rw [hall] at hv
        subst hv
        repeat' (first
          | refine w_seq ?_
          | refine w_reg ?_
          | refine w_end (by simp only [outsV, nth, setV, List.take_succ_cons, List.take_zero, List.length_cons, List.length_nil, Nat.zero_add, Nat.reduceAdd] <;> rfl) ?_
          | refine w_off rfl ?_
          | refine w_rf rfl (by assumption) (by rfl) (by rfl) (by rfl) ?_
          | refine w_rfg rfl rfl (by assumption) (by rfl) (by rfl) (by rfl) (by rfl) ?_
          | refine w_on rfl ?_
          | refine w_len rfl (by assumption) ?_
          | refine w_lssN rfl rfl (fun hc => ?_) (fun hc => ?_)
          | refine w_leqN rfl rfl (fun hc => ?_) (fun hc => ?_)
          | refine w_gtrN rfl rfl (fun hc => ?_) (fun hc => ?_)
          | refine w_geqN rfl rfl (fun hc => ?_) (fun hc => ?_)
          | refine w_eqlN rfl rfl (fun hc => ?_) (fun hc => ?_)
          | refine w_neqN rfl rfl (fun hc => ?_) (fun hc => ?_)
          | refine w_lss rfl rfl (fun hc => ?_) (fun hc => ?_)
          | refine w_leq rfl rfl (fun hc => ?_) (fun hc => ?_)
          | refine w_gtr rfl rfl (fun hc => ?_) (fun hc => ?_)
          | refine w_geq rfl rfl (fun hc => ?_) (fun hc => ?_)
          | refine w_eql rfl rfl (fun hc => ?_) (fun hc => ?_)
          | refine w_neq rfl rfl (fun hc => ?_) (fun hc => ?_)
          | refine w_addN rfl rfl (by omega) ?_
          | refine w_opk rfl rfl ?_
          | refine w_cond_t rfl ?_
          | refine w_cond_f rfl ?_
          | refine w_skip ?_
          | refine w_exit rfl ?_
          | refine w_ret ?_
          | refine w_rt rfl ?_)
        refine w_aw hO ?_
        repeat' (first
          | refine w_seq ?_
          | refine w_reg ?_
          | refine w_end (by simp only [outsV, nth, setV, List.take_succ_cons, List.take_zero, List.length_cons, List.length_nil, Nat.zero_add, Nat.reduceAdd] <;> rfl) ?_
          | refine w_off rfl ?_
          | refine w_rf rfl (by assumption) (by rfl) (by rfl) (by rfl) ?_
          | refine w_rfg rfl rfl (by assumption) (by rfl) (by rfl) (by rfl) (by rfl) ?_
          | refine w_on rfl ?_
          | refine w_len rfl (by assumption) ?_
          | refine w_lssN rfl rfl (fun hc => ?_) (fun hc => ?_)
          | refine w_leqN rfl rfl (fun hc => ?_) (fun hc => ?_)
          | refine w_gtrN rfl rfl (fun hc => ?_) (fun hc => ?_)
          | refine w_geqN rfl rfl (fun hc => ?_) (fun hc => ?_)
          | refine w_eqlN rfl rfl (fun hc => ?_) (fun hc => ?_)
          | refine w_neqN rfl rfl (fun hc => ?_) (fun hc => ?_)
          | refine w_lss rfl rfl (fun hc => ?_) (fun hc => ?_)
          | refine w_leq rfl rfl (fun hc => ?_) (fun hc => ?_)
          | refine w_gtr rfl rfl (fun hc => ?_) (fun hc => ?_)
          | refine w_geq rfl rfl (fun hc => ?_) (fun hc => ?_)
          | refine w_eql rfl rfl (fun hc => ?_) (fun hc => ?_)
          | refine w_neq rfl rfl (fun hc => ?_) (fun hc => ?_)
          | refine w_addN rfl rfl (by omega) ?_
          | refine w_opk rfl rfl ?_
          | refine w_cond_t rfl ?_
          | refine w_cond_f rfl ?_
          | refine w_skip ?_
          | refine w_exit rfl ?_
          | refine w_ret ?_
          | refine w_rt rfl ?_)
        rfl
end AmT
