/-
  slices.Clone and profile.longer at any slices. Conditions: the slices are some.
-/
import Derived.Test.YtclkhkphpkdnaaaGreatDoorW
namespace AmT
open Go Am
set_option maxRecDepth 100000
set_option maxHeartbeats 4000000
set_option linter.unusedSimpArgs false
set_option linter.unusedVariables false
variable {O : CallF}


theorem cloneSeen_ok (hO : ∀ a h, O 61 a h = none) {h0 : Heap} {v : V} {l : List (List V)} (hv : RS h0 2 v l) (hl : l.length ≤ 4294967296) :
    WPc tab.get O 61 [v] h0 (fun w h' => Ow h' 2 w l ∧ Ext h0 h' ∧ ∀ j ∈ slIds w, h0.n ≤ j) := by
  refine w_fn' (hO _ _) rfl rfl (by simp only [c61, initV, nth] <;> rfl) ?_
  refine w_seq (w_reg ?_)
  repeat' (first | refine w_seq ?_ | refine w_reg ?_ | refine w_end (by simp only [outsV, nth, setV, List.take_succ_cons, List.take_zero, List.length_cons, List.length_nil, Nat.zero_add, Nat.reduceAdd] <;> rfl) ?_ | refine w_opk rfl rfl ?_)
  refine w_isnil rfl hv (fun e => ?_) (fun e => ?_)
  · subst e
    have hl0 : l = [] := by
      have := hv.1
      simp only [srcCells, Option.some.injEq, Prod.mk.injEq] at this
      exact List.eq_nil_of_length_eq_zero this.1.symm
    subst hl0
    repeat' (first | refine w_seq ?_ | refine w_reg ?_ | refine w_end (by simp only [outsV, nth, setV, List.take_succ_cons, List.take_zero, List.length_cons, List.length_nil, Nat.zero_add, Nat.reduceAdd] <;> rfl) ?_ | refine w_opk rfl rfl ?_ | refine w_cond_t rfl ?_ | refine w_ret ?_ | refine w_rt rfl ?_)
    exact ⟨Ow.nils _ _, ExtX.refl _ _, by simp [slIds, packV]⟩
  · repeat' (first | refine w_seq ?_ | refine w_reg ?_ | refine w_end (by simp only [outsV, nth, setV, List.take_succ_cons, List.take_zero, List.length_cons, List.length_nil, Nat.zero_add, Nat.reduceAdd] <;> rfl) ?_ | refine w_cond_f rfl ?_ | refine w_skip ?_)
    refine w_bslice [] rfl (by rfl) rfl rfl (by simp) fun e0 h1 he0 hf1 => ?_
    have he0n : ∀ j ∈ slIds e0, h0.n ≤ j := fun j hj => by
      rcases hf1.2 j hj with e | e
      · cases e
      · exact e
    repeat' (first | refine w_opk rfl rfl ?_)
    refine w_app rfl rfl he0 (hv.ext0 hf1.ext0) (by simpa using hl) fun w h2 hw hf2 => ?_
    rw [List.nil_append] at hw
    repeat' (first | refine w_end (by simp only [outsV, nth, setV, List.take_succ_cons, List.take_zero, List.length_cons, List.length_nil, Nat.zero_add, Nat.reduceAdd] <;> rfl) ?_ | refine w_opk rfl rfl ?_ | refine w_ret ?_ | refine w_rt rfl ?_)
    refine ⟨hw, hf1.ext0.step hf2.1 fun j hj => .inr (he0n j hj), fun j hj => ?_⟩
    rcases hf2.2 j hj with e | e
    · exact he0n j e
    · have := hf1.1.1; omega


theorem cloneTop_ok (hO : ∀ a h, O 23 a h = none) {h0 : Heap} {v : V} {l : List (List V)} (hv : RS h0 2 v l) (hl : l.length ≤ 4294967296) :
    WPc tab.get O 23 [v] h0 (fun w h' => Ow h' 2 w l ∧ Ext h0 h' ∧ ∀ j ∈ slIds w, h0.n ≤ j) := by
  refine w_fn' (hO _ _) rfl rfl (by simp only [c23, initV, nth] <;> rfl) ?_
  refine w_seq (w_reg ?_)
  repeat' (first | refine w_seq ?_ | refine w_reg ?_ | refine w_end (by simp only [outsV, nth, setV, List.take_succ_cons, List.take_zero, List.length_cons, List.length_nil, Nat.zero_add, Nat.reduceAdd] <;> rfl) ?_ | refine w_opk rfl rfl ?_)
  refine w_isnil rfl hv (fun e => ?_) (fun e => ?_)
  · subst e
    have hl0 : l = [] := by
      have := hv.1
      simp only [srcCells, Option.some.injEq, Prod.mk.injEq] at this
      exact List.eq_nil_of_length_eq_zero this.1.symm
    subst hl0
    repeat' (first | refine w_seq ?_ | refine w_reg ?_ | refine w_end (by simp only [outsV, nth, setV, List.take_succ_cons, List.take_zero, List.length_cons, List.length_nil, Nat.zero_add, Nat.reduceAdd] <;> rfl) ?_ | refine w_opk rfl rfl ?_ | refine w_cond_t rfl ?_ | refine w_ret ?_ | refine w_rt rfl ?_)
    exact ⟨Ow.nils _ _, ExtX.refl _ _, by simp [slIds, packV]⟩
  · repeat' (first | refine w_seq ?_ | refine w_reg ?_ | refine w_end (by simp only [outsV, nth, setV, List.take_succ_cons, List.take_zero, List.length_cons, List.length_nil, Nat.zero_add, Nat.reduceAdd] <;> rfl) ?_ | refine w_cond_f rfl ?_ | refine w_skip ?_)
    refine w_bslice [] rfl (by rfl) rfl rfl (by simp) fun e0 h1 he0 hf1 => ?_
    have he0n : ∀ j ∈ slIds e0, h0.n ≤ j := fun j hj => by
      rcases hf1.2 j hj with e | e
      · cases e
      · exact e
    repeat' (first | refine w_opk rfl rfl ?_)
    refine w_app rfl rfl he0 (hv.ext0 hf1.ext0) (by simpa using hl) fun w h2 hw hf2 => ?_
    rw [List.nil_append] at hw
    repeat' (first | refine w_end (by simp only [outsV, nth, setV, List.take_succ_cons, List.take_zero, List.length_cons, List.length_nil, Nat.zero_add, Nat.reduceAdd] <;> rfl) ?_ | refine w_opk rfl rfl ?_ | refine w_ret ?_ | refine w_rt rfl ?_)
    refine ⟨hw, hf1.ext0.step hf2.1 fun j hj => .inr (he0n j hj), fun j hj => ?_⟩
    rcases hf2.2 j hj with e | e
    · exact he0n j e
    · have := hf1.1.1; omega



theorem longerSeen_ok (hC : ∀ a h, O 61 a h = none) (hO : ∀ a h, O 21 a h = none) {h0 : Heap} {a b : V} {la lb : List (List V)} (ha : RS h0 2 a la) (hb : RS h0 2 b lb) (hla : la.length ≤ 4294967296) (hlb : lb.length ≤ 4294967296) :
    WPc tab.get O 21 [a, b] h0 (fun w h' => (∃ x y lx ly, w = .tuple [x, y] ∧ (lb.length ≤ la.length ∧ lx = la ∧ y = b ∧ ly = lb ∨ la.length < lb.length ∧ lx = lb ∧ y = a ∧ ly = la) ∧ Ow h' 2 x lx ∧ ∀ j ∈ slIds x, h0.n ≤ j) ∧ Ext h0 h') := by
  refine w_fn' (hO _ _) rfl rfl (by simp only [c21, initV, nth] <;> rfl) ?_
  repeat' (first | refine w_seq ?_ | refine w_reg ?_ | refine w_end (by simp only [outsV, nth, setV, List.take_succ_cons, List.take_zero, List.length_cons, List.length_nil, Nat.zero_add, Nat.reduceAdd] <;> rfl) ?_ | refine w_len rfl (by assumption) ?_ | refine w_lssN rfl rfl (fun hc => ?_) (fun hc => ?_) | refine w_opk rfl rfl ?_ | refine w_cond_t rfl ?_ | refine w_cond_f rfl ?_ | refine w_skip ?_)
  · refine w_call rfl ((cloneSeen_ok hC hb hlb).mono fun w h1 ⟨hw, hE, hn⟩ => ?_)
    repeat' (first | refine w_end (by simp only [outsV, nth, setV, List.take_succ_cons, List.take_zero, List.length_cons, List.length_nil, Nat.zero_add, Nat.reduceAdd] <;> rfl) ?_ | refine w_opk rfl rfl ?_ | refine w_ret ?_ | refine w_rt rfl ?_)
    exact ⟨⟨_, _, lb, la, rfl, .inr ⟨by assumption, rfl, rfl, rfl⟩, hw, hn⟩, hE⟩
  · refine w_call rfl ((cloneSeen_ok hC ha hla).mono fun w h1 ⟨hw, hE, hn⟩ => ?_)
    repeat' (first | refine w_end (by simp only [outsV, nth, setV, List.take_succ_cons, List.take_zero, List.length_cons, List.length_nil, Nat.zero_add, Nat.reduceAdd] <;> rfl) ?_ | refine w_opk rfl rfl ?_ | refine w_ret ?_ | refine w_rt rfl ?_)
    exact ⟨⟨_, _, la, lb, rfl, .inl ⟨by assumption, rfl, rfl, rfl⟩, hw, hn⟩, hE⟩


theorem longerTop_ok (hC : ∀ a h, O 23 a h = none) (hO : ∀ a h, O 24 a h = none) {h0 : Heap} {a b : V} {la lb : List (List V)} (ha : RS h0 2 a la) (hb : RS h0 2 b lb) (hla : la.length ≤ 4294967296) (hlb : lb.length ≤ 4294967296) :
    WPc tab.get O 24 [a, b] h0 (fun w h' => (∃ x y lx ly, w = .tuple [x, y] ∧ (lb.length ≤ la.length ∧ lx = la ∧ y = b ∧ ly = lb ∨ la.length < lb.length ∧ lx = lb ∧ y = a ∧ ly = la) ∧ Ow h' 2 x lx ∧ ∀ j ∈ slIds x, h0.n ≤ j) ∧ Ext h0 h') := by
  refine w_fn' (hO _ _) rfl rfl (by simp only [c24, initV, nth] <;> rfl) ?_
  repeat' (first | refine w_seq ?_ | refine w_reg ?_ | refine w_end (by simp only [outsV, nth, setV, List.take_succ_cons, List.take_zero, List.length_cons, List.length_nil, Nat.zero_add, Nat.reduceAdd] <;> rfl) ?_ | refine w_len rfl (by assumption) ?_ | refine w_lssN rfl rfl (fun hc => ?_) (fun hc => ?_) | refine w_opk rfl rfl ?_ | refine w_cond_t rfl ?_ | refine w_cond_f rfl ?_ | refine w_skip ?_)
  · refine w_call rfl ((cloneTop_ok hC hb hlb).mono fun w h1 ⟨hw, hE, hn⟩ => ?_)
    repeat' (first | refine w_end (by simp only [outsV, nth, setV, List.take_succ_cons, List.take_zero, List.length_cons, List.length_nil, Nat.zero_add, Nat.reduceAdd] <;> rfl) ?_ | refine w_opk rfl rfl ?_ | refine w_ret ?_ | refine w_rt rfl ?_)
    exact ⟨⟨_, _, lb, la, rfl, .inr ⟨by assumption, rfl, rfl, rfl⟩, hw, hn⟩, hE⟩
  · refine w_call rfl ((cloneTop_ok hC ha hla).mono fun w h1 ⟨hw, hE, hn⟩ => ?_)
    repeat' (first | refine w_end (by simp only [outsV, nth, setV, List.take_succ_cons, List.take_zero, List.length_cons, List.length_nil, Nat.zero_add, Nat.reduceAdd] <;> rfl) ?_ | refine w_opk rfl rfl ?_ | refine w_ret ?_ | refine w_rt rfl ?_)
    exact ⟨⟨_, _, la, lb, rfl, .inl ⟨by assumption, rfl, rfl, rfl⟩, hw, hn⟩, hE⟩


/-- A count's bound. -/
def bnd (n : Int) : Int := let m := if 1099511627776 < n then 1099511627776 else n; if m > 0 then m else 0

theorem bound_ok (hO : ∀ a h, O 22 a h = none) {h0 : Heap} {n : Int} :
    WPc tab.get O 22 [.int .i64 n] h0 (fun w h' => w = .int .i64 (bnd n) ∧ h' = h0) := by
  refine w_fn' (hO _ _) rfl rfl (by simp only [c22, initV, nth] <;> rfl) ?_
  repeat' (first | refine w_seq ?_ | refine w_reg ?_ | refine w_end (by simp only [outsV, nth, setV, List.take_succ_cons, List.take_zero, List.length_cons, List.length_nil, Nat.zero_add, Nat.reduceAdd] <;> rfl) ?_ | refine w_opk rfl rfl ?_)
  refine w_op (v := .int .i64 (if 1099511627776 < n then 1099511627776 else n)) (h1 := h0) rfl ?_
  refine w_mx1 rfl rfl rfl ?_
  repeat' (first | refine w_end (by simp only [outsV, nth, setV, List.take_succ_cons, List.take_zero, List.length_cons, List.length_nil, Nat.zero_add, Nat.reduceAdd] <;> rfl) ?_ | refine w_opk rfl rfl ?_ | refine w_ret ?_ | refine w_rt rfl ?_)
  exact ⟨rfl, rfl⟩
end AmT
