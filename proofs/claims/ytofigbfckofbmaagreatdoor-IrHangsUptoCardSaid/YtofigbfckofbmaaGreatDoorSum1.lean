/-
  The part of ir.Sum that puts numbers, at any numbers. Conditions: the slice that it puts behind is one's own, and apart from the numbers.
-/
import Derived.Test.YtofigbfckofbmaaGreatDoorUint
namespace AmT
open Go Am
set_option maxRecDepth 100000
set_option linter.unusedSimpArgs false
set_option linter.unusedVariables false
set_option maxHeartbeats 2000000
variable {O : CallF}

/-- Numbers, put. -/
def intsB (l : List Int) : List (List V) := (l.map fun n => uB 9 (IntKind.u64.wrap n)).flatten

theorem intsB_len (l : List Int) : (intsB l).length ≤ 10 * l.length := by
  induction l with
  | nil => simp [intsB]
  | cons a l ih =>
    have := uB_len 9 (IntKind.u64.wrap a)
    simp only [intsB, List.map_cons, List.flatten_cons, List.length_append, List.length_cons] at ih ⊢
    omega

theorem intsB_append (a b : List Int) : intsB (a ++ b) = intsB a ++ intsB b := by simp [intsB]

theorem intsB_take {l : List Int} {j : Nat} (hj : j < l.length) : intsB (l.take (j + 1)) = intsB (l.take j) ++ uB 9 (IntKind.u64.wrap l[j]) := by
  rw [List.take_add_one, List.getElem?_eq_getElem hj, intsB_append]
  simp [intsB]

theorem sum1_ok (hU : ∀ a h, O 33 a h = none) (hO : ∀ a h, O 32 a h = none) {h0 : Heap} {s sv : V} {id : Nat} {ns : List Int} {bs : List (List V)} (hs : RS h0 1 s (ns.map fun n => [.int .i64 n])) (hb : Own h0 id [sv]) (ho : Ow h0 1 sv bs)
    (hd : id ∉ slIds sv) (hd2 : ∀ j ∈ slIds s, j ≠ id ∧ j ∉ slIds sv) (hr : bs.length + 10 * ns.length ≤ 4000000000) :
    WPc tab.get O 32 [s, .ptr id 0 0 1] h0 (fun _ h' => ∃ sv', Own h' id [sv'] ∧ Ow h' 1 sv' (bs ++ intsB ns) ∧ id ∉ slIds sv' ∧ ExtX (id :: slIds sv) h0 h' ∧ ∀ j ∈ slIds sv', j ∈ slIds sv ∨ h0.n ≤ j) := by
  refine w_fn' (hO _ _) rfl rfl (by simp only [c32, initV, nth] <;> rfl) ?_
  repeat' (first
    | refine w_seq ?_
    | refine w_reg ?_
    | refine w_end (by simp only [outsV, nth, setV, List.take_succ_cons, List.take_zero, List.length_cons, List.length_nil, Nat.zero_add, Nat.reduceAdd] <;> rfl) ?_
    | refine w_off rfl ?_
    | refine w_rf rfl (by assumption) (by rfl) (by rfl) (by rfl) ?_
    | refine w_rfg rfl rfl (by assumption) (by rfl) (by rfl) (by rfl) (by rfl) ?_
    | refine w_on rfl ?_
    | refine w_len rfl (by assumption) ?_
    | refine w_lssN rfl rfl (fun hc => ?_) (fun hc => ?_)
    | refine w_leqN rfl rfl (fun hc => ?_) (fun hc => ?_)
    | refine w_gtrN rfl rfl (fun hc => ?_) (fun hc => ?_)
    | refine w_geqN rfl rfl (fun hc => ?_) (fun hc => ?_)
    | refine w_eqlN rfl rfl (fun hc => ?_) (fun hc => ?_)
    | refine w_neqN rfl rfl (fun hc => ?_) (fun hc => ?_)
    | refine w_lss rfl rfl (fun hc => ?_) (fun hc => ?_)
    | refine w_leq rfl rfl (fun hc => ?_) (fun hc => ?_)
    | refine w_gtr rfl rfl (fun hc => ?_) (fun hc => ?_)
    | refine w_geq rfl rfl (fun hc => ?_) (fun hc => ?_)
    | refine w_eql rfl rfl (fun hc => ?_) (fun hc => ?_)
    | refine w_neq rfl rfl (fun hc => ?_) (fun hc => ?_)
    | refine w_addN rfl rfl (by omega) ?_
    | refine w_opk rfl rfl ?_
    | refine w_cond_t rfl ?_
    | refine w_cond_f rfl ?_
    | refine w_skip ?_
    | refine w_exit rfl ?_
    | refine w_ret ?_
    | refine w_rt rfl ?_)
  refine w_count (fun j vs h => ∃ sv' b n, vs = [s, .ptr id 0 0 1, .int .i64 (.ofNat j), .int .i64 (.ofNat (ns.map fun n => [V.int .i64 n]).length), b, s, n] ∧ Own h id [sv'] ∧ Ow h 1 sv' (bs ++ intsB (ns.take j)) ∧ id ∉ slIds sv' ∧ ExtX (id :: slIds sv) h0 h ∧ ∀ j ∈ slIds sv', j ∈ slIds sv ∨ h0.n ≤ j) ns.length ⟨sv, _, _, rfl, hb, by simpa [intsB] using ho, hd, ExtX.refl _ _, fun _ h => .inl h⟩ ?_
  rintro j vs h hj ⟨sv', b, n, rfl, hb, ho, hd, hE, hn⟩
  have hs' := hs.ext hE (fun jd off len ver e f hv => by
    have := hd2 jd (by rw [hv]; simp [slIds])
    simp [this.1, this.2])
  repeat' (first
    | refine w_seq ?_
    | refine w_reg ?_
    | refine w_end (by simp only [outsV, nth, setV, List.take_succ_cons, List.take_zero, List.length_cons, List.length_nil, Nat.zero_add, Nat.reduceAdd] <;> rfl) ?_
    | refine w_off rfl ?_
    | refine w_rf rfl (by assumption) (by rfl) (by rfl) (by rfl) ?_
    | refine w_rfg rfl rfl (by assumption) (by rfl) (by rfl) (by rfl) (by rfl) ?_
    | refine w_on rfl ?_
    | refine w_len rfl (by assumption) ?_
    | refine w_lssN rfl rfl (fun hc => ?_) (fun hc => ?_)
    | refine w_leqN rfl rfl (fun hc => ?_) (fun hc => ?_)
    | refine w_gtrN rfl rfl (fun hc => ?_) (fun hc => ?_)
    | refine w_geqN rfl rfl (fun hc => ?_) (fun hc => ?_)
    | refine w_eqlN rfl rfl (fun hc => ?_) (fun hc => ?_)
    | refine w_neqN rfl rfl (fun hc => ?_) (fun hc => ?_)
    | refine w_lss rfl rfl (fun hc => ?_) (fun hc => ?_)
    | refine w_leq rfl rfl (fun hc => ?_) (fun hc => ?_)
    | refine w_gtr rfl rfl (fun hc => ?_) (fun hc => ?_)
    | refine w_geq rfl rfl (fun hc => ?_) (fun hc => ?_)
    | refine w_eql rfl rfl (fun hc => ?_) (fun hc => ?_)
    | refine w_neq rfl rfl (fun hc => ?_) (fun hc => ?_)
    | refine w_addN rfl rfl (by omega) ?_
    | refine w_opk rfl rfl ?_
    | refine w_cond_t rfl ?_
    | refine w_cond_f rfl ?_
    | refine w_skip ?_
    | refine w_exit rfl ?_
    | refine w_ret ?_
    | refine w_rt rfl ?_)
  · refine w_block ?_
    repeat' (first
      | refine w_seq ?_
      | refine w_reg ?_
      | refine w_end (by simp only [outsV, nth, setV, List.take_succ_cons, List.take_zero, List.length_cons, List.length_nil, Nat.zero_add, Nat.reduceAdd] <;> rfl) ?_
      | refine w_off rfl ?_
      | refine w_rf rfl (by assumption) (by rfl) (by rfl) (by rfl) ?_
      | refine w_rfg rfl rfl (by assumption) (by rfl) (by rfl) (by rfl) (by rfl) ?_
      | refine w_on rfl ?_
      | refine w_len rfl (by assumption) ?_
      | refine w_lssN rfl rfl (fun hc => ?_) (fun hc => ?_)
      | refine w_leqN rfl rfl (fun hc => ?_) (fun hc => ?_)
      | refine w_gtrN rfl rfl (fun hc => ?_) (fun hc => ?_)
      | refine w_geqN rfl rfl (fun hc => ?_) (fun hc => ?_)
      | refine w_eqlN rfl rfl (fun hc => ?_) (fun hc => ?_)
      | refine w_neqN rfl rfl (fun hc => ?_) (fun hc => ?_)
      | refine w_lss rfl rfl (fun hc => ?_) (fun hc => ?_)
      | refine w_leq rfl rfl (fun hc => ?_) (fun hc => ?_)
      | refine w_gtr rfl rfl (fun hc => ?_) (fun hc => ?_)
      | refine w_geq rfl rfl (fun hc => ?_) (fun hc => ?_)
      | refine w_eql rfl rfl (fun hc => ?_) (fun hc => ?_)
      | refine w_neq rfl rfl (fun hc => ?_) (fun hc => ?_)
      | refine w_addN rfl rfl (by omega) ?_
      | refine w_opk rfl rfl ?_
      | refine w_cond_t rfl ?_
      | refine w_cond_f rfl ?_
      | refine w_skip ?_
      | refine w_exit rfl ?_
      | refine w_ret ?_
      | refine w_rt rfl ?_)
    have hj1 : j < (ns.map fun n => [V.int .i64 n]).length := by assumption
    have hj2 : j < ns.length := by simpa using hj1
    refine w_iadr rfl rfl hs' hj1 fun p hp => ?_
    rw [List.getElem_map] at hp
    refine w_load1 rfl hp rfl ?_
    repeat' (first
      | refine w_seq ?_
      | refine w_reg ?_
      | refine w_end (by simp only [outsV, nth, setV, List.take_succ_cons, List.take_zero, List.length_cons, List.length_nil, Nat.zero_add, Nat.reduceAdd] <;> rfl) ?_
      | refine w_off rfl ?_
      | refine w_rf rfl (by assumption) (by rfl) (by rfl) (by rfl) ?_
      | refine w_rfg rfl rfl (by assumption) (by rfl) (by rfl) (by rfl) (by rfl) ?_
      | refine w_on rfl ?_
      | refine w_len rfl (by assumption) ?_
      | refine w_lssN rfl rfl (fun hc => ?_) (fun hc => ?_)
      | refine w_leqN rfl rfl (fun hc => ?_) (fun hc => ?_)
      | refine w_gtrN rfl rfl (fun hc => ?_) (fun hc => ?_)
      | refine w_geqN rfl rfl (fun hc => ?_) (fun hc => ?_)
      | refine w_eqlN rfl rfl (fun hc => ?_) (fun hc => ?_)
      | refine w_neqN rfl rfl (fun hc => ?_) (fun hc => ?_)
      | refine w_lss rfl rfl (fun hc => ?_) (fun hc => ?_)
      | refine w_leq rfl rfl (fun hc => ?_) (fun hc => ?_)
      | refine w_gtr rfl rfl (fun hc => ?_) (fun hc => ?_)
      | refine w_geq rfl rfl (fun hc => ?_) (fun hc => ?_)
      | refine w_eql rfl rfl (fun hc => ?_) (fun hc => ?_)
      | refine w_neq rfl rfl (fun hc => ?_) (fun hc => ?_)
      | refine w_addN rfl rfl (by omega) ?_
      | refine w_opk rfl rfl ?_
      | refine w_cond_t rfl ?_
      | refine w_cond_f rfl ?_
      | refine w_skip ?_
      | refine w_exit rfl ?_
      | refine w_ret ?_
      | refine w_rt rfl ?_)
    refine w_load1 rfl (hb.at rfl) rfl ?_
    repeat' (first
      | refine w_seq ?_
      | refine w_reg ?_
      | refine w_end (by simp only [outsV, nth, setV, List.take_succ_cons, List.take_zero, List.length_cons, List.length_nil, Nat.zero_add, Nat.reduceAdd] <;> rfl) ?_
      | refine w_off rfl ?_
      | refine w_rf rfl (by assumption) (by rfl) (by rfl) (by rfl) ?_
      | refine w_rfg rfl rfl (by assumption) (by rfl) (by rfl) (by rfl) (by rfl) ?_
      | refine w_on rfl ?_
      | refine w_len rfl (by assumption) ?_
      | refine w_lssN rfl rfl (fun hc => ?_) (fun hc => ?_)
      | refine w_leqN rfl rfl (fun hc => ?_) (fun hc => ?_)
      | refine w_gtrN rfl rfl (fun hc => ?_) (fun hc => ?_)
      | refine w_geqN rfl rfl (fun hc => ?_) (fun hc => ?_)
      | refine w_eqlN rfl rfl (fun hc => ?_) (fun hc => ?_)
      | refine w_neqN rfl rfl (fun hc => ?_) (fun hc => ?_)
      | refine w_lss rfl rfl (fun hc => ?_) (fun hc => ?_)
      | refine w_leq rfl rfl (fun hc => ?_) (fun hc => ?_)
      | refine w_gtr rfl rfl (fun hc => ?_) (fun hc => ?_)
      | refine w_geq rfl rfl (fun hc => ?_) (fun hc => ?_)
      | refine w_eql rfl rfl (fun hc => ?_) (fun hc => ?_)
      | refine w_neq rfl rfl (fun hc => ?_) (fun hc => ?_)
      | refine w_addN rfl rfl (by omega) ?_
      | refine w_opk rfl rfl ?_
      | refine w_cond_t rfl ?_
      | refine w_cond_f rfl ?_
      | refine w_skip ?_
      | refine w_exit rfl ?_
      | refine w_ret ?_
      | refine w_rt rfl ?_)
    have hw := wrap_u64_range ns[j]
    have hlen := intsB_len (ns.take j)
    refine w_call rfl ((uint_ok hU hw.1 hw.2 ho (by simp at hlen ⊢; omega)).mono fun v h2 ⟨ho2, hf2⟩ => ?_)
    have hb2 := hb.ext hf2.1 hd
    have hd3 : id ∉ slIds v := fun e => by
      rcases hf2.2 id e with e | e
      · exact hd e
      · have := hb.1; omega
    refine w_store rfl rfl hb2 (by rw [V.cells1 ho2.rs.one]; rfl) (by rw [V.cells1 ho2.rs.one]; simp only [allOne, ho2.rs.one]) (by decide) (by simp) fun h3 hb3 hE3 hn3 => ?_
    rw [V.cells1 ho2.rs.one] at hb3
    repeat' (first
      | refine w_seq ?_
      | refine w_reg ?_
      | refine w_end (by simp only [outsV, nth, setV, List.take_succ_cons, List.take_zero, List.length_cons, List.length_nil, Nat.zero_add, Nat.reduceAdd] <;> rfl) ?_
      | refine w_off rfl ?_
      | refine w_rf rfl (by assumption) (by rfl) (by rfl) (by rfl) ?_
      | refine w_rfg rfl rfl (by assumption) (by rfl) (by rfl) (by rfl) (by rfl) ?_
      | refine w_on rfl ?_
      | refine w_len rfl (by assumption) ?_
      | refine w_lssN rfl rfl (fun hc => ?_) (fun hc => ?_)
      | refine w_leqN rfl rfl (fun hc => ?_) (fun hc => ?_)
      | refine w_gtrN rfl rfl (fun hc => ?_) (fun hc => ?_)
      | refine w_geqN rfl rfl (fun hc => ?_) (fun hc => ?_)
      | refine w_eqlN rfl rfl (fun hc => ?_) (fun hc => ?_)
      | refine w_neqN rfl rfl (fun hc => ?_) (fun hc => ?_)
      | refine w_lss rfl rfl (fun hc => ?_) (fun hc => ?_)
      | refine w_leq rfl rfl (fun hc => ?_) (fun hc => ?_)
      | refine w_gtr rfl rfl (fun hc => ?_) (fun hc => ?_)
      | refine w_geq rfl rfl (fun hc => ?_) (fun hc => ?_)
      | refine w_eql rfl rfl (fun hc => ?_) (fun hc => ?_)
      | refine w_neq rfl rfl (fun hc => ?_) (fun hc => ?_)
      | refine w_addN rfl rfl (by omega) ?_
      | refine w_opk rfl rfl ?_
      | refine w_cond_t rfl ?_
      | refine w_cond_f rfl ?_
      | refine w_skip ?_
      | refine w_exit rfl ?_
      | refine w_ret ?_
      | refine w_rt rfl ?_)
    refine ⟨hj2, v, _, _, rfl, hb3, ?_, hd3, ?_, ?_⟩
    · rw [intsB_take hj2, ← List.append_assoc]
      exact ho2.ext hE3 (fun k hk => by simp; intro e; exact hd3 (e ▸ hk))
    · refine (hE.step hf2.1 fun k hk => ?_).step hE3 fun k hk => ?_
      · rcases hn k hk with e | e
        · exact .inl (by simp [e])
        · exact .inr e
      · simp at hk; exact .inl (by simp [hk])
    · intro k hk
      rcases hf2.2 k hk with e | e
      · exact hn k e
      · have := hE.1; exact .inr (by omega)
  · have hjl : j = ns.length := by simp at hc; omega
    subst hjl
    rw [List.take_length] at ho
    exact ⟨sv', hb, ho, hd, hE, hn⟩
end AmT
