/-
  What ir.Read does in its loops: a step behind the code, a way back behind others, a way out behind others, a need behind others. Conditions: those of the reader.
-/
import Derived.Test.YtdeehlcjhmjofaaGreatDoorStep
namespace AmT
open Go Am
set_option maxRecDepth 100000
set_option maxHeartbeats 4000000
set_option linter.unusedSimpArgs false
set_option linter.unusedVariables false
variable {O : CallF}

def rdP (r : Nat) : List V := [.ptr r 0 0 3]

/-- The code read so far. -/
def J1 (hA : Heap) (r f rb : Nat) (a0 a1 a3 a4 : V) (h : Heap) (ax : List SpecA) : Prop := ∃ v, Own h f [a0, a1, v, a3, a4] ∧ Own h rb (rdP r) ∧ Ow h 7 v (ax.map specC) ∧ ax.length ≤ 4000 ∧ (∀ i ∈ slIds v, hA.n ≤ i) ∧ ExtX [r, f] hA h

theorem J1.step {hA h h' : Heap} {r f rb : Nat} {a0 a1 a3 a4 : V} {ax : List SpecA} (hr : r < hA.n) (hf : r ≠ f) (hrb : r ≠ rb) (k : J1 hA r f rb a0 a1 a3 a4 h ax) (hE : ExtX [r] h h') : J1 hA r f rb a0 a1 a3 a4 h' ax := by
  obtain ⟨v, k1, k2, k3, k4, k5, k6⟩ := k
  exact ⟨v, k1.ext hE (by simp; omega), k2.ext hE (by simp; omega), k3.ext hE (fun j hj e => by simp at e; have := k5 j hj; omega), k4, k5, k6.step hE fun j hj => by simp at hj; exact .inl (by simp [hj])⟩

theorem read1_ok (hO : OffRd O) {hb hA h : Heap} {r f rb : Nat} {a0 a1 a3 a4 : V} {b : V} {bs : List Nat} {τ : Option (List Nat)} {ax : List SpecA} (hB : RdB hb b bs) (hbA : hb.n ≤ hA.n) (hr : r < hA.n) (hf : f < hA.n) (hfb : hb.n ≤ f) (hrb : rb < hA.n) (n1 : r ≠ f) (n2 : r ≠ rb) (n3 : f ≠ rb) (hs : RdSt hb h r b bs τ) (hJ : J1 hA r f rb a0 a1 a3 a4 h ax) (hl : ax.length < 4000) :
    WPc tab.get O 59 [.ptr f 0 0 5, .ptr rb 0 0 1] h (fun _ h' => ∃ x, RdSt hb h' r b bs (rst (aft cSpec.dec τ)) ∧ J1 hA r f rb a0 a1 a3 a4 h' (ax ++ [x]) ∧ ∀ y l, aft cSpec.dec τ = some (y, l) → x = y) := by
  obtain ⟨v, q1, q2, q3, q4, q5, q6⟩ := hJ
  refine w_fn' (hO.r1 _ _) rfl rfl (by simp only [c59, initV, nth] <;> rfl) ?_
  have q2b : Own h rb [.ptr r 0 0 3] := q2
  repeat' (first | refine w_reg ?_ | refine w_rf rfl (by assumption) (by rfl) (by rfl) (by rfl) ?_ | refine w_fl rfl (by assumption) (by rfl) (by rfl) (by rfl) ?_)
  refine w_call rfl ((step_ok hO hB hs).mono fun _ h4 ⟨s, e, p1, p2, p3⟩ => ?_)
  subst e
  have q1' := q1.ext p3 (by simp; omega)
  have q2' := q2.ext p3 (by simp; omega)
  have q3' := q3.ext p3 (fun j hj e => by simp at e; have := q5 j hj; omega)
  have hA2 := (q1'.at rfl).fadr (d := 2) (by simp)
  refine w_chk1 (p := .ptr f (0 + 2) 0 5) rfl rfl hA2 (V.beq_refl _) ?_
  refine w_push rfl rfl rfl rfl (fun _ => rfl) q3' (by simp; omega) fun a v' h5 hv' hf' => ?_
  have q1'' := q1'.ext hf'.1 (fun e => by have := q5 f e; omega)
  have q2'' := q2'.ext hf'.1 (fun e => by have := q5 rb e; omega)
  repeat' (first | refine w_opk rfl rfl ?_)
  refine w_store rfl rfl q1'' (by rw [V.cells1 hv'.rs.one]; rfl) (by rw [V.cells1 hv'.rs.one]; simp only [allOne, hv'.rs.one]) (by decide) (by simp) fun h6 u1 u2 u3 => ?_
  rw [V.cells1 hv'.rs.one] at u1
  replace u1 : Own h6 f [a0, a1, v', a3, a4] := u1
  repeat' (first | refine w_end (by simp only [outsV, nth, setV, List.take_succ_cons, List.take_zero, List.length_cons, List.length_nil, Nat.zero_add, Nat.reduceAdd] <;> rfl) ?_ | refine w_rt rfl ?_)
  have hnew : ∀ i ∈ slIds v', hA.n ≤ i := fun i hi => by
    rcases hf'.2 i hi with e | e
    · exact q5 i e
    · have := q6.1; have := p3.1; omega
  have hrs5 := (p2.ext hf'.1 (fun e => by have := q5 r e; omega) (fun j hj => by have := q5 j hj; omega)).ext u2 (by simp; omega) (fun j hj => by simp at hj; omega)
  refine ⟨s, hrs5, ⟨v', u1, q2''.ext u2 (by simp; omega), ?_, by simp; omega, hnew, ?_⟩, p1⟩
  · rw [List.map_append]
    exact hv'.ext u2 (fun j hj e => by simp at e; have := hnew j hj; omega)
  · exact ((q6.step p3 fun j hj => by simp at hj; exact .inl (by simp [hj])).step hf'.1 fun j hj => .inr (q5 j hj)).step u2 fun j hj => by simp at hj; exact .inl (by simp [hj])

/-- The needs read so far. -/
def J3 (hA : Heap) (r f rb : Nat) (a0 a1 a2 a3 : V) (h : Heap) (ax : List NeedA) : Prop := ∃ v, Own h f [a0, a1, a2, a3, v] ∧ Own h rb (rdP r) ∧ Ow h 2 v (ax.map needC) ∧ ax.length ≤ 100 ∧ (∀ i ∈ slIds v, hA.n ≤ i) ∧ ExtX [r, f] hA h

theorem J3.step {hA h h' : Heap} {r f rb : Nat} {a0 a1 a2 a3 : V} {ax : List NeedA} (hr : r < hA.n) (hf : r ≠ f) (hrb : r ≠ rb) (k : J3 hA r f rb a0 a1 a2 a3 h ax) (hE : ExtX [r] h h') : J3 hA r f rb a0 a1 a2 a3 h' ax := by
  obtain ⟨v, k1, k2, k3, k4, k5, k6⟩ := k
  exact ⟨v, k1.ext hE (by simp; omega), k2.ext hE (by simp; omega), k3.ext hE (fun j hj e => by simp at e; have := k5 j hj; omega), k4, k5, k6.step hE fun j hj => by simp at hj; exact .inl (by simp [hj])⟩

theorem read3_ok (hO : OffRd O) {hb hA h : Heap} {r f rb : Nat} {a0 a1 a2 a3 : V} {b : V} {bs : List Nat} {τ : Option (List Nat)} {ax : List NeedA} (hB : RdB hb b bs) (hbA : hb.n ≤ hA.n) (hr : r < hA.n) (hf : f < hA.n) (hfb : hb.n ≤ f) (hrb : rb < hA.n) (n1 : r ≠ f) (n2 : r ≠ rb) (n3 : f ≠ rb) (hs : RdSt hb h r b bs τ) (hJ : J3 hA r f rb a0 a1 a2 a3 h ax) (hl : ax.length < 100) :
    WPc tab.get O 64 [.ptr rb 0 0 1, .ptr f 0 0 5] h (fun _ h' => ∃ x, RdSt hb h' r b bs (rst (aft cNeed.dec τ)) ∧ J3 hA r f rb a0 a1 a2 a3 h' (ax ++ [x]) ∧ ∀ y l, aft cNeed.dec τ = some (y, l) → x = y) := by
  obtain ⟨v, q1, q2, q3, q4, q5, q6⟩ := hJ
  refine w_fn' (hO.r3 _ _) rfl rfl (by simp only [c64, initV, nth] <;> rfl) ?_
  have hrh := hs.base.2.2
  have nA := q6.1
  have lv := q3.rs.lt
  refine w_seq (w_reg (w_alloc fun ix h1 hX hiX hE1 => ?_))
  replace hX : Own h1 ix [.int .i64 0, .int .u32 0] := hX
  have hXl := hX.1
  have m1 := hE1.1
  have hs1 := hs.ext0 hE1
  replace q1 := q1.ext0 hE1
  replace q2 : Own h1 rb [.ptr r 0 0 3] := q2.ext0 hE1
  replace q3 := q3.ext0 hE1
  replace q6 := q6.trans (hE1.mono (by simp))
  repeat' (first | refine w_seq ?_ | refine w_reg ?_ | refine w_end (by simp only [outsV, nth, setV, List.take_succ_cons, List.take_zero, List.length_cons, List.length_nil, Nat.zero_add, Nat.reduceAdd] <;> rfl) ?_ | refine w_fl rfl (by assumption) (by rfl) (by rfl) (by rfl) ?_)
  refine w_call rfl ((number_ok hO hB hs1).mono fun _ h2 ⟨m, e, p1, p2, p3⟩ => ?_)
  subst e
  have m2 := p3.1
  replace q1 := q1.ext p3 (by simp; omega)
  replace q2 := q2.ext p3 (by simp; omega)
  replace q3 := q3.ext p3 (fun j hj e => by simp at e; have := q5 j hj; omega)
  replace q6 := q6.step p3 fun j hj => by simp at hj; exact .inl (by simp [hj])
  replace hX := hX.ext p3 (by simp; omega)
  repeat' (first | refine w_opk rfl rfl ?_)
  refine w_store rfl rfl hX rfl rfl (by decide) (by simp) fun h3 hX2 y1 z1 => ?_
  clear hX
  have hX : Own h3 ix [.int .i64 (.ofNat m), .int .u32 0] := hX2
  clear hX2
  replace q1 := q1.ext y1 (by simp; omega)
  replace q2 := q2.ext y1 (by simp; omega)
  replace q3 := q3.ext y1 (fun j hj e => by simp at e; have := lv j hj; omega)
  replace q6 := q6.step y1 fun j hj => by simp at hj; exact .inr (by omega)
  replace p2 := p2.ext y1 (by simp; omega) (fun j hj => by simp at hj; omega)
  repeat' (first | refine w_seq ?_ | refine w_reg ?_ | refine w_end (by simp only [outsV, nth, setV, List.take_succ_cons, List.take_zero, List.length_cons, List.length_nil, Nat.zero_add, Nat.reduceAdd] <;> rfl) ?_ | refine w_fl rfl (by assumption) (by rfl) (by rfl) (by rfl) ?_)
  refine w_callA [.ptr r 0 0 3, .int .u64 (.ofNat 4294967295)] rfl ((upTo_ok hO hB p2 (most := 4294967295) (by decide) (by decide)).mono fun _ h4 ⟨n, e, ln, s1, _, s2, s3⟩ => ?_)
  subst e
  have m3 := y1.1
  have m4 := s3.1
  replace q1 := q1.ext s3 (by simp; omega)
  replace q2 := q2.ext s3 (by simp; omega)
  replace q3 := q3.ext s3 (fun j hj e => by simp at e; have := q5 j hj; omega)
  replace q6 := q6.step s3 fun j hj => by simp at hj; exact .inl (by simp [hj])
  replace hX := hX.ext s3 (by simp; omega)
  refine w_toI (b := .ofNat n) rfl (by rw [wrap_u32]; show ((n : Nat) : Int) % _ = ((n : Nat) : Int); omega) ?_
  repeat' (first | refine w_opk rfl rfl ?_)
  refine w_store rfl rfl hX rfl rfl (by decide) (by simp) fun h5 hX2 y2 z2 => ?_
  clear hX
  have hX : Own h5 ix [.int .i64 (.ofNat m), .int .u32 (.ofNat n)] := hX2
  clear hX2
  have m5 := y2.1
  replace q1 := q1.ext y2 (by simp; omega)
  replace q2 := q2.ext y2 (by simp; omega)
  replace q3 := q3.ext y2 (fun j hj e => by simp at e; have := lv j hj; omega)
  replace q6 := q6.step y2 fun j hj => by simp at hj; exact .inr (by omega)
  replace s2 := s2.ext y2 (by simp; omega) (fun j hj => by simp at hj; omega)
  repeat' (first | refine w_reg ?_ | refine w_end (by simp only [outsV, nth, setV, List.take_succ_cons, List.take_zero, List.length_cons, List.length_nil, Nat.zero_add, Nat.reduceAdd] <;> rfl) ?_ | refine w_rf rfl (by assumption) (by rfl) (by rfl) (by rfl) ?_)
  refine w_loadA rfl (hX.at rfl) rfl ?_
  refine w_push rfl rfl rfl rfl (fun _ => rfl) q3 (by simp; omega) fun a v' h6 hv' hf' => ?_
  have q1'' := q1.ext hf'.1 (fun e => by have := q5 f e; omega)
  have q2'' := q2.ext hf'.1 (fun e => by have := q5 rb e; omega)
  repeat' (first | refine w_opk rfl rfl ?_)
  refine w_store rfl rfl q1'' (by rw [V.cells1 hv'.rs.one]; rfl) (by rw [V.cells1 hv'.rs.one]; simp only [allOne, hv'.rs.one]) (by decide) (by simp) fun h7 u1 u2 u3 => ?_
  rw [V.cells1 hv'.rs.one] at u1
  replace u1 : Own h7 f [a0, a1, a2, a3, v'] := u1
  repeat' (first | refine w_end (by simp only [outsV, nth, setV, List.take_succ_cons, List.take_zero, List.length_cons, List.length_nil, Nat.zero_add, Nat.reduceAdd] <;> rfl) ?_ | refine w_rt rfl ?_)
  have hnew : ∀ i ∈ slIds v', hA.n ≤ i := fun i hi => by
    rcases hf'.2 i hi with e | e
    · exact q5 i e
    · omega
  have hrs5 := (s2.ext hf'.1 (fun e => by have := q5 r e; omega) (fun j hj => by have := q5 j hj; omega)).ext u2 (by simp; omega) (fun j hj => by simp at hj; omega)
  refine ⟨(.ofNat m, .ofNat n), ?_, ⟨v', u1, q2''.ext u2 (by simp; omega), ?_, by simp; omega, hnew, ?_⟩, ?_⟩
  · unfold cNeed
    rw [rst_seq]
    exact hrs5
  · rw [List.map_append]
    exact hv'.ext u2 (fun j hj e => by simp at e; have := hnew j hj; omega)
  · exact (q6.step hf'.1 fun j hj => .inr (q5 j hj)).step u2 fun j hj => by simp at hj; exact .inl (by simp [hj])
  · intro y l e
    unfold cNeed at e
    obtain ⟨⟨_, e0⟩, e⟩ := aft_seq e
    rw [p1 _ _ e0, s1 _ _ e]
end AmT
