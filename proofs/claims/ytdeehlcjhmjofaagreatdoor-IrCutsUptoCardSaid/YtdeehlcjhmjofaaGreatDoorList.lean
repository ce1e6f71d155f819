/-
  The reader's lists of numbers. Conditions: those of the reader.
-/
import Derived.Test.YtdeehlcjhmjofaaGreatDoorEach
namespace AmT
open Go Am
set_option maxRecDepth 100000
set_option maxHeartbeats 4000000
set_option linter.unusedSimpArgs false
set_option linter.unusedVariables false
variable {O : CallF}

theorem list_ok (hO : OffRd O) {hb h0 : Heap} {r : Nat} {b : V} {bs : List Nat} {σ : Option (List Nat)} (hB : RdB hb b bs) (hs : RdSt hb h0 r b bs σ) :
    WPc tab.get O 63 [.ptr r 0 0 3] h0 (fun v h' => ∃ ax : List Int, Ow h' 1 v (ax.map intC) ∧ ax.length ≤ 1024 ∧ (∀ i ∈ slIds v, h0.n ≤ i) ∧ (∀ x l, aft cInts.dec σ = some (x, l) → ax = x) ∧ RdSt hb h' r b bs (rst (aft cInts.dec σ)) ∧ ExtX [r] h0 h') := by
  refine w_fn' (hO.li _ _) rfl rfl (by simp only [c63, initV, nth] <;> rfl) ?_
  refine w_seq (w_reg (w_box rfl rfl rfl fun ir h1 hI hiI hE1 => ?_))
  replace hI : Own h1 ir [.ptr r 0 0 3] := hI
  repeat' (first | refine w_seq ?_ | refine w_reg ?_ | refine w_end (by simp only [outsV, nth, setV, List.take_succ_cons, List.take_zero, List.length_cons, List.length_nil, Nat.zero_add, Nat.reduceAdd] <;> rfl) ?_ | refine w_opk rfl rfl ?_)
  have hIl1 := hI.1
  refine w_alloc fun io h2 hV hiV hE2 => ?_
  replace hI := hI.ext0 hE2
  have hr := hs.base.2.2
  have hbn := hs.base.2.1.1
  have hIl := hI.1
  have hVl := hV.1
  have n1 := hE1.1
  have n2 := hE2.1
  have hs2 := (hs.ext0 hE1).ext0 hE2
  have hne : ir ≠ io := by omega
  repeat' (first | refine w_seq ?_ | refine w_reg ?_ | refine w_end (by simp only [outsV, nth, setV, List.take_succ_cons, List.take_zero, List.length_cons, List.length_nil, Nat.zero_add, Nat.reduceAdd] <;> rfl) ?_ | refine w_fl rfl (by assumption) (by rfl) (by rfl) (by rfl) ?_ | refine w_opk rfl rfl ?_)
  refine w_callA [.ptr r 0 0 3, .int .u64 (.ofNat 1024), .fn 109 [] [.ptr io 0 0 1, .ptr ir 0 0 1]] rfl ((each_ok hO cN hB hs2 (most := 1024) (by decide) (by decide) (fun h ax => ∃ v, Own h io [v] ∧ Own h ir [.ptr r 0 0 3] ∧ Ow h 1 v (ax.map intC) ∧ ax.length ≤ 1024 ∧ (∀ i ∈ slIds v, h2.n ≤ i) ∧ ExtX [r, io] h2 h) ⟨.nils, hV, hI, Ow.nils _ _, by simp, by simp [slIds], ExtX.refl _ _⟩ ?_ ?_).mono fun _ h3 ⟨ax, k1, ⟨v, k2, k3, k4, k5, k6, k7⟩, k8⟩ => ?_)
  · rintro h h' ax hrl ⟨v, q1, q2, q3, q4, q5, q6⟩ hE
    exact ⟨v, q1.ext hE (by simp; omega), q2.ext hE (by simp; omega), q3.ext hE (fun j hj e => by simp at e; have := q5 j hj; omega), q4, q5, q6.step hE fun j hj => by simp at hj; exact .inl (by simp [hj])⟩
  · rintro h ax τ hrs ⟨v, q1, q2, q3, q4, q5, q6⟩ hlen
    refine w_fn' (hO.l1 _ _) rfl rfl (by simp only [c109, initV, nth] <;> rfl) ?_
    repeat' (first | refine w_reg ?_ | refine w_fl rfl (by assumption) (by rfl) (by rfl) (by rfl) ?_)
    refine w_call rfl ((number_ok hO hB hrs).mono fun _ h4 ⟨n, e, p1, p2, p3⟩ => ?_)
    subst e
    have q1' := q1.ext p3 (by simp; omega)
    have q2' := q2.ext p3 (by simp; omega)
    have q3' := q3.ext p3 (fun j hj e => by simp at e; have := q5 j hj; omega)
    refine w_chk1 rfl rfl (q1'.at rfl) (V.beq_refl _) ?_
    refine w_push rfl rfl rfl rfl (fun _ => rfl) q3' (by simp; omega) fun a v' h5 hv' hf' => ?_
    have q1'' := q1'.ext hf'.1 (fun e => by have := q5 io e; omega)
    have q2'' := q2'.ext hf'.1 (fun e => by have := q5 ir e; omega)
    refine w_store rfl rfl q1'' (by rw [V.cells1 hv'.rs.one]; rfl) (by rw [V.cells1 hv'.rs.one]; simp only [allOne, hv'.rs.one]) (by decide) (by simp) fun h6 u1 u2 u3 => ?_
    rw [V.cells1 hv'.rs.one] at u1
    replace u1 : Own h6 io [v'] := u1
    repeat' (first | refine w_end (by simp only [outsV, nth, setV, List.take_succ_cons, List.take_zero, List.length_cons, List.length_nil, Nat.zero_add, Nat.reduceAdd] <;> rfl) ?_ | refine w_rt rfl ?_)
    have hnew : ∀ i ∈ slIds v', h2.n ≤ i := fun i hi => by
      rcases hf'.2 i hi with e | e
      · exact q5 i e
      · have := q6.1; have := p3.1; omega
    have hrs5 := (p2.ext hf'.1 (fun e => by have := q5 r e; omega) (fun j hj => by have := q5 j hj; omega)).ext u2 (by simp; omega) (fun j hj => by simp at hj; omega)
    refine ⟨Int.ofNat n, hrs5, ⟨v', u1, q2''.ext u2 (by simp; omega), ?_, by simp; omega, hnew, ?_⟩, p1⟩
    · rw [List.map_append]
      exact hv'.ext u2 (fun j hj e => by simp at e; have := hnew j hj; omega)
    · exact ((q6.step p3 fun j hj => by simp at hj; exact .inl (by simp [hj])).step hf'.1 fun j hj => .inr (q5 j hj)).step u2 fun j hj => by simp at hj; exact .inl (by simp [hj])
  repeat' (first | refine w_seq ?_ | refine w_reg ?_ | refine w_end (by simp only [outsV, nth, setV, List.take_succ_cons, List.take_zero, List.length_cons, List.length_nil, Nat.zero_add, Nat.reduceAdd] <;> rfl) ?_ | refine w_fl rfl (by assumption) (by rfl) (by rfl) (by rfl) ?_ | refine w_opk rfl rfl ?_ | refine w_ret ?_ | refine w_rt rfl ?_)
  refine ⟨ax, k4, k5, fun i hi => by have := k6 i hi; omega, k8, k1, ?_⟩
  exact ((hE1.trans hE2).mono (by simp)).step k7 fun j hj => by
    simp at hj
    rcases hj with hj | hj
    · exact .inl (by simp [hj])
    · exact .inr (by omega)
end AmT
