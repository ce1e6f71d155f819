/-
  What ir.Read does for a way out. Conditions: those of the reader.
-/
import Derived.Test.YtdeehlcjhmjofaaGreatDoorRead2
namespace AmT
open Go Am
set_option maxRecDepth 100000
set_option maxHeartbeats 4000000
set_option linter.unusedSimpArgs false
set_option linter.unusedVariables false
variable {O : CallF}

/-- The ways out read so far. -/
def J2 (hA : Heap) (r f rb : Nat) (a0 a1 a2 a4 : V) (h : Heap) (ax : List (List BackA)) : Prop := ∃ v le, Own h f [a0, a1, a2, v, a4] ∧ Own h rb (rdP r) ∧ Ow h 1 v le ∧ All2 (ExitR (Zn hA h v) h) le ax ∧ ax.length ≤ 2000 ∧ (∀ i ∈ slIds v, hA.n ≤ i) ∧ ExtX [r, f] hA h

theorem J2.step {hA h h' : Heap} {r f rb : Nat} {a0 a1 a2 a4 : V} {ax : List (List BackA)} (hr : r < hA.n) (hf : r ≠ f) (hrb : r ≠ rb) (k : J2 hA r f rb a0 a1 a2 a4 h ax) (hE : ExtX [r] h h') : J2 hA r f rb a0 a1 a2 a4 h' ax := by
  obtain ⟨v, lc, k1, k2, k3, kb, k4, k5, k6⟩ := k
  refine ⟨v, lc, k1.ext hE (by simp; omega), k2.ext hE (by simp; omega), k3.ext hE (fun j hj e => by simp at e; have := k5 j hj; omega), kb.mono fun x y _ _ q => q.ext hE (fun j hj e => ?_) fun j hj => ⟨hj.1, Nat.lt_of_lt_of_le hj.2.1 hE.1, hj.2.2⟩, k4, k5, k6.step hE fun j hj => by simp at hj; exact .inl (by simp [hj])⟩
  simp at e
  have := hj.1
  omega

theorem read2_ok (hO : OffRd O) {hb hA h : Heap} {r f rb : Nat} {a0 a1 a2 a4 : V} {b : V} {bs : List Nat} {τ : Option (List Nat)} {ax : List (List BackA)} (hB : RdB hb b bs) (hbA : hb.n ≤ hA.n) (hr : r < hA.n) (hf : f < hA.n) (hfb : hb.n ≤ f) (hrb : rb < hA.n) (n1 : r ≠ f) (n2 : r ≠ rb) (n3 : f ≠ rb) (hs : RdSt hb h r b bs τ) (hJ : J2 hA r f rb a0 a1 a2 a4 h ax) (hl : ax.length < 2000) :
    WPc tab.get O 61 [.ptr rb 0 0 1, .ptr f 0 0 5] h (fun _ h' => ∃ x, RdSt hb h' r b bs (rst (aft cBacks.dec τ)) ∧ J2 hA r f rb a0 a1 a2 a4 h' (ax ++ [x]) ∧ ∀ y l, aft cBacks.dec τ = some (y, l) → x = y) := by
  obtain ⟨v, le, q1, q2, q3, qb, q4, q5, q6⟩ := hJ
  refine w_fn' (hO.r2 _ _) rfl rfl (by simp only [c61, initV, nth] <;> rfl) ?_
  have hrh := hs.base.2.2
  have nA := q6.1
  have lv := q3.rs.lt
  refine w_seq (w_reg (w_alloc fun il h1 hX hiX hE1 => ?_))
  replace hX : Own h1 il [.nils] := hX
  have hXl := hX.1
  have m1 := hE1.1
  replace hs := hs.ext0 hE1
  replace q1 := q1.ext0 hE1
  replace q2 : Own h1 rb [.ptr r 0 0 3] := q2.ext0 hE1
  have E1 : ExtX [r] h h1 := hE1.mono (by simp)
  repeat' (first | refine w_seq ?_ | refine w_reg ?_ | refine w_end (by simp only [outsV, nth, setV, List.take_succ_cons, List.take_zero, List.length_cons, List.length_nil, Nat.zero_add, Nat.reduceAdd] <;> rfl) ?_ | refine w_fl rfl (by assumption) (by rfl) (by rfl) (by rfl) ?_ | refine w_opk rfl rfl ?_)
  refine w_callA [.ptr r 0 0 3, .int .u64 (.ofNat 3), .fn 62 [] [.ptr rb 0 0 1, .ptr il 0 0 1]] rfl ((each_ok hO cBack hB hs (most := 3) (by decide) (by decide) (fun h ax => J21 h1 r il rb h ax) ⟨.nils, [], hX, q2, Ow.nils _ _, All2.nil _, by simp, by simp [slIds], ExtX.refl _ _⟩ (fun h h' ax _ k hE => k.step (by omega) (by omega) (by omega) hE) fun h ax τ k1 k2 k3 => read21_ok hO hB (by omega) (by omega) (by omega) (by omega) (by omega) (by omega) (by omega) (by omega) k1 k2 k3).mono fun _ h2 ⟨bl, k1, ⟨w, lc, k2, k3, k4, kb, k5, k6, k7⟩, k8⟩ => ?_)
  have m2 := k7.1
  have lw := k4.rs.lt
  replace q1 := q1.ext k7 (by simp; omega)
  have k3 : Own h2 rb [.ptr r 0 0 3] := k3
  have E2 : ExtX [r] h h2 := E1.step k7 fun j hj => by
    simp at hj
    rcases hj with hj | hj
    · exact .inl (by simp [hj])
    · exact .inr (by omega)
  replace q3 := q3.ext E2 (fun j hj e => by simp at e; have := q5 j hj; omega)
  replace qb : All2 (ExitR (Zn hA h v) h2) le ax := qb.mono fun x y _ _ q => q.ext E2 (fun j hj e => by simp at e; have := hj.1; omega) fun j hj => hj
  repeat' (first | refine w_reg ?_ | refine w_end (by simp only [outsV, nth, setV, List.take_succ_cons, List.take_zero, List.length_cons, List.length_nil, Nat.zero_add, Nat.reduceAdd] <;> rfl) ?_ | refine w_rf rfl (by assumption) (by rfl) (by rfl) (by rfl) ?_ | refine w_fl rfl (by assumption) (by rfl) (by rfl) (by rfl) ?_)
  refine w_push rfl (by rw [V.cells1 k4.rs.one]; rfl) rfl (by rw [V.cells1 k4.rs.one]; simp only [allOne, k4.rs.one]) (fun _ => rfl) q3 (by have := qb.1; omega) fun a v' h3 hv' hf' => ?_
  rw [V.cells1 k4.rs.one] at hv'
  have m3 := hf'.1.1
  have q1'' := q1.ext hf'.1 (fun e => by have := q5 f e; omega)
  have q2'' := k3.ext hf'.1 (fun e => by have := q5 rb e; omega)
  repeat' (first | refine w_opk rfl rfl ?_)
  refine w_store rfl rfl q1'' (by rw [V.cells1 hv'.rs.one]; rfl) (by rw [V.cells1 hv'.rs.one]; simp only [allOne, hv'.rs.one]) (by decide) (by simp) fun h4 u1 u2 u3 => ?_
  rw [V.cells1 hv'.rs.one] at u1
  replace u1 : Own h4 f [a0, a1, a2, v', a4] := u1
  have m4 := u2.1
  repeat' (first | refine w_end (by simp only [outsV, nth, setV, List.take_succ_cons, List.take_zero, List.length_cons, List.length_nil, Nat.zero_add, Nat.reduceAdd] <;> rfl) ?_ | refine w_rt rfl ?_)
  have hnew : ∀ i ∈ slIds v', hA.n ≤ i := fun i hi => by
    rcases hf'.2 i hi with e | e
    · exact q5 i e
    · omega
  have hrs5 := (k1.ext hf'.1 (fun e => by have := q5 r e; omega) (fun j hj => by have := q5 j hj; omega)).ext u2 (by simp; omega) (fun j hj => by simp at hj; omega)
  have hz : ∀ j, hA.n ≤ j → j < h2.n → j ∉ slIds v → Zn hA h4 v' j := fun j h1 h2 h3 => ⟨h1, by omega, fun e => by
    rcases hf'.2 j e with e | e
    · exact h3 e
    · omega⟩
  have hEE : ∀ j, hA.n ≤ j → j ∉ slIds v → j ∉ slIds v ++ [f] := fun j h1 h2 e => by
    rcases List.mem_append.1 e with e | e
    · exact h2 e
    · simp at e; omega
  have E4 : ExtX (slIds v ++ [f]) h2 h4 := (hf'.1.mono fun j hj => by simp [hj]).trans (u2.mono fun j hj => by simp at hj; simp [hj])
  have nw : ∀ j, h1.n ≤ j → j ∉ slIds v := fun j h1 e => by have := lv j e; omega
  refine ⟨bl, hrs5, ⟨v', le ++ [[w]], u1, q2''.ext u2 (by simp; omega), hv'.ext u2 (fun j hj e => by simp at e; have := hnew j hj; omega), All2.push ?_ ?_, by simp; omega, hnew, ?_⟩, k8⟩
  · exact qb.mono fun x y _ _ q => q.ext E4 (fun j hj => hEE j hj.1 hj.2.2) fun j hj => hz j hj.1 (by have := hj.2.1; omega) hj.2.2
  · refine ⟨w, lc, rfl, ⟨k4.rs.ext E4 fun id off len ver e f hv => ?_, fun j hj => ?_⟩, kb.mono fun x y _ _ q => q.ext E4 (fun j hj => hEE j ?_ (nw j hj.1)) fun j hj => hz j ?_ hj.2.1 (nw j hj.1)⟩
    · have := k6 id (by rw [hv]; simp [slIds])
      exact hEE id (by omega) (nw id this)
    · have h5 := k6 j hj
      have h6 := lw j hj
      exact hz j (by omega) h6 (nw j h5)
    · have := hj.1; omega
    · have := hj.1; omega
  · exact ((q6.step E2 fun j hj => by simp at hj; exact .inl (by simp [hj])).step hf'.1 fun j hj => .inr (q5 j hj)).step u2 fun j hj => by simp at hj; exact .inl (by simp [hj])
end AmT
