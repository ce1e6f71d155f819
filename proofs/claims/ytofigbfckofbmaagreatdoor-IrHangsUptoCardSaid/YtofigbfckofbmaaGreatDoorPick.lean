/-
  droverkit.Pick; which calls are known in chapter 14's laws. Conditions: none.
-/
import Derived.Test.YtofigbfckofbmaaGreatDoorHolds
import Derived.Test.YtofigbfckofbmaaGreatDoorGreat
namespace AmT
open Go Am
set_option maxRecDepth 100000
set_option maxHeartbeats 4000000
set_option linter.unusedSimpArgs false
set_option linter.unusedVariables false
variable {O : CallF}

/-- The examples are known, no other call is. -/
structure Off14 (O : CallF) : Prop extends OffHolds O where
  aw : ∀ h, O 10 [] h = some (.bool true, h)
  gr : ∀ a h, O 9 a h = none
  pick : ∀ a h, O 13 a h = none
  l1 : ∀ a h, O 3 a h = none
  l2 : ∀ a h, O 4 a h = none
  l3 : ∀ a h, O 5 a h = none

theorem w_aw {O : CallF} (hO : Off14 O) {vs ls : List V} {h : Heap} {Q : List V → Heap → Prop} {os : List AOp} (k1 : WPo tab.get O os (.bool true :: ls) vs h Q) : WPo tab.get O (⟨none, .call 10 []⟩ :: os) ls vs h Q :=
  w_call rfl (w_known (hO.aw h) k1)

theorem pick_ok (hO : ∀ a h, O 13 a h = none) {h0 : Heap} {n : Int} {L : Nat} (hL : 0 < L) (hL2 : L ≤ 2097152) : WPc tab.get O 13 [.int .i64 n, .int .i64 (.ofNat L)] h0 (fun v h' => (∃ k : Nat, v = .int .i64 (.ofNat k) ∧ k < L) ∧ h' = h0) := by
  refine w_fn' (hO _ _) rfl rfl (by simp only [c13, initV, nth] <;> rfl) ?_
  have hb := tmod_bound n hL
  have e0 : Int.ofNat L = (L : Int) := rfl
  repeat' (first
    | refine w_seq ?_
    | refine w_reg ?_
    | refine w_end (by simp only [outsV, nth, setV, List.take_succ_cons, List.take_zero, List.length_cons, List.length_nil, Nat.zero_add, Nat.reduceAdd] <;> rfl) ?_
    | refine w_off rfl ?_
    | refine w_rf rfl (by assumption) (by rfl) (by rfl) (by rfl) ?_
    | refine w_rfg rfl rfl (by assumption) (by rfl) (by rfl) (by rfl) (by rfl) ?_
    | refine w_on rfl ?_
    | refine w_len rfl (by assumption) ?_
    | refine w_lssN rfl rfl (fun hc => ?_) (fun hc => ?_)
    | refine w_leqN rfl rfl (fun hc => ?_) (fun hc => ?_)
    | refine w_gtrN rfl rfl (fun hc => ?_) (fun hc => ?_)
    | refine w_geqN rfl rfl (fun hc => ?_) (fun hc => ?_)
    | refine w_eqlN rfl rfl (fun hc => ?_) (fun hc => ?_)
    | refine w_neqN rfl rfl (fun hc => ?_) (fun hc => ?_)
    | refine w_lss rfl rfl (fun hc => ?_) (fun hc => ?_)
    | refine w_leq rfl rfl (fun hc => ?_) (fun hc => ?_)
    | refine w_gtr rfl rfl (fun hc => ?_) (fun hc => ?_)
    | refine w_geq rfl rfl (fun hc => ?_) (fun hc => ?_)
    | refine w_eql rfl rfl (fun hc => ?_) (fun hc => ?_)
    | refine w_neq rfl rfl (fun hc => ?_) (fun hc => ?_)
    | refine w_addN rfl rfl (by omega) ?_
    | refine w_opk rfl rfl ?_
    | refine w_cond_t rfl ?_
    | refine w_cond_f rfl ?_
    | refine w_skip ?_
    | refine w_exit rfl ?_
    | refine w_ret ?_
    | refine w_rt rfl ?_)
  · exact absurd hc (by omega)
  refine w_rem rfl rfl (by omega) ?_
  repeat' (first
    | refine w_seq ?_
    | refine w_reg ?_
    | refine w_end (by simp only [outsV, nth, setV, List.take_succ_cons, List.take_zero, List.length_cons, List.length_nil, Nat.zero_add, Nat.reduceAdd] <;> rfl) ?_
    | refine w_off rfl ?_
    | refine w_rf rfl (by assumption) (by rfl) (by rfl) (by rfl) ?_
    | refine w_rfg rfl rfl (by assumption) (by rfl) (by rfl) (by rfl) (by rfl) ?_
    | refine w_on rfl ?_
    | refine w_len rfl (by assumption) ?_
    | refine w_lssN rfl rfl (fun hc => ?_) (fun hc => ?_)
    | refine w_leqN rfl rfl (fun hc => ?_) (fun hc => ?_)
    | refine w_gtrN rfl rfl (fun hc => ?_) (fun hc => ?_)
    | refine w_geqN rfl rfl (fun hc => ?_) (fun hc => ?_)
    | refine w_eqlN rfl rfl (fun hc => ?_) (fun hc => ?_)
    | refine w_neqN rfl rfl (fun hc => ?_) (fun hc => ?_)
    | refine w_lss rfl rfl (fun hc => ?_) (fun hc => ?_)
    | refine w_leq rfl rfl (fun hc => ?_) (fun hc => ?_)
    | refine w_gtr rfl rfl (fun hc => ?_) (fun hc => ?_)
    | refine w_geq rfl rfl (fun hc => ?_) (fun hc => ?_)
    | refine w_eql rfl rfl (fun hc => ?_) (fun hc => ?_)
    | refine w_neq rfl rfl (fun hc => ?_) (fun hc => ?_)
    | refine w_addN rfl rfl (by omega) ?_
    | refine w_opk rfl rfl ?_
    | refine w_cond_t rfl ?_
    | refine w_cond_f rfl ?_
    | refine w_skip ?_
    | refine w_exit rfl ?_
    | refine w_ret ?_
    | refine w_rt rfl ?_)
  · have hc : n.tmod (Int.ofNat L) < 0 := hc
    have hq : wrapK .i64 (Int.add (n.tmod (Int.ofNat L)) (Int.ofNat L)) = Int.ofNat (n.tmod (Int.ofNat L) + Int.ofNat L).toNat := by
      have e1 : Int.add (n.tmod (Int.ofNat L)) (Int.ofNat L) = n.tmod (Int.ofNat L) + Int.ofNat L := rfl
      rw [wrapK_eq, e1, wrap_i64_of (by omega) (by omega)]
      show _ = ((_ : Nat) : Int)
      omega
    exact ⟨⟨_, by rw [hq]; rfl, by omega⟩, rfl⟩
  · have hc : 0 ≤ n.tmod (Int.ofNat L) := hc
    have hq : n.tmod (Int.ofNat L) = Int.ofNat (n.tmod (Int.ofNat L)).toNat := by
      show _ = ((_ : Nat) : Int)
      omega
    exact ⟨⟨(n.tmod (Int.ofNat L)).toNat, by rw [← hq]; rfl, by omega⟩, rfl⟩
end AmT
