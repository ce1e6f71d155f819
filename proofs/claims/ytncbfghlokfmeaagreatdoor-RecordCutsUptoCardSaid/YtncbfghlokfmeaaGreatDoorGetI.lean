/-
  bytes.GetInt: a signed number at a place, or an error. Conditions: the bytes are bytes, the place is not past them.
-/
import Derived.Test.YtncbfghlokfmeaaGreatDoorGet
namespace AmT
open Go Am
set_option maxRecDepth 100000
set_option maxHeartbeats 4000000
set_option linter.unusedSimpArgs false
set_option linter.unusedVariables false
variable {O : CallF}

/-- What GetInt tells. -/
def GotI (n at_ : Nat) (v : V) (o : Option (Nat × List Nat)) : Prop :=
  match o with
  | some (m, r) => v = .tuple [.int .i64 (zag m), .int .i64 (.ofNat (n - r.length)), .int .i64 0] ∧ r.length ≤ n
  | none => ∃ e : Int, e ≠ 0 ∧ v = .tuple [.int .i64 0, .int .i64 0, .int .i64 e]

theorem getI_ok (hU : ∀ a h, O 100 a h = none) (hO : ∀ a h, O 96 a h = none) {h0 : Heap} {b : V} {bs : List Nat} {a : Nat} (hb : RS h0 1 b (bs.map byteC)) (hB : Bytes bs) (ha : a ≤ bs.length) (hl : bs.length ≤ 4294967296) :
    WPc tab.get O 96 [b, .int .i64 (.ofNat a)] h0 (fun v h' => GotI bs.length a v (dU 9 true (bs.drop a)) ∧ h' = h0) := by
  refine w_fn' (hO _ _) rfl rfl (by simp only [c96, initV, nth] <;> rfl) ?_
  repeat' (first | refine w_seq ?_ | refine w_reg ?_ | refine w_e ?_ | refine w_opk rfl rfl ?_)
  refine w_call rfl ((getU_ok hU hb hB ha hl).mono fun v h1 ⟨hv, e1⟩ => ?_)
  subst e1
  cases hd : dU 9 true (bs.drop a) with
  | none =>
    rw [hd] at hv
    obtain ⟨e, he, rfl⟩ := hv
    repeat' (first | refine w_seq ?_ | refine w_reg ?_ | refine w_e ?_ | refine w_opk rfl rfl ?_ | refine w_ret ?_ | refine w_rt rfl ?_)
    exact ⟨⟨e, he, rfl⟩, rfl⟩
  | some y =>
    obtain ⟨m, r⟩ := y
    rw [hd] at hv
    obtain ⟨rfl, hm, hr⟩ := hv
    repeat' (first | refine w_seq ?_ | refine w_reg ?_ | refine w_e ?_ | refine w_opq rfl rfl ?_)
    refine w_shr1 rfl (by rfl) ?_
    refine w_toI (b := .ofNat (m / 2)) rfl (wrap_i64_nat (by omega)) ?_
    repeat' (first | refine w_opq rfl rfl ?_)
    refine w_and1 rfl (by rfl) hm ?_
    refine w_toI (b := .ofNat (m % 2)) rfl (wrap_i64_nat (by omega)) ?_
    rcases Nat.mod_two_eq_zero_or_one m with h2 | h2
    · rw [h2]
      repeat' (first | refine w_opq rfl rfl ?_)
      refine w_xorI0 rfl (by rfl) (by omega) ?_
      repeat' (first | refine w_e ?_ | refine w_opk rfl rfl ?_ | refine w_ret ?_ | refine w_rt rfl ?_)
      refine ⟨⟨?_, hr⟩, rfl⟩
      unfold zag
      rw [if_pos h2]
      rfl
    · rw [h2]
      repeat' (first | refine w_opq rfl rfl ?_)
      refine w_xorI1 rfl (by rfl) (by omega) ?_
      repeat' (first | refine w_e ?_ | refine w_opk rfl rfl ?_ | refine w_ret ?_ | refine w_rt rfl ?_)
      refine ⟨⟨?_, hr⟩, rfl⟩
      unfold zag
      rw [if_neg (by omega)]
      rfl
end AmT
