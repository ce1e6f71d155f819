/-
  What ir.Read does for a way back, and for a way out. Conditions: those of the reader.
-/
import Derived.Test.YtdeehlcjhmjofaaGreatDoorRead1
namespace AmT
open Go Am
set_option maxRecDepth 100000
set_option maxHeartbeats 4000000
set_option linter.unusedSimpArgs false
set_option linter.unusedVariables false
variable {O : CallF}

/-- What is new since a heap, but for a slice's own object. -/
def Zn (hA h : Heap) (v : V) (i : Nat) : Prop := hA.n ≤ i ∧ i < h.n ∧ i ∉ slIds v

/-- The ways back read so far. -/
def J21 (hA : Heap) (r il rb : Nat) (h : Heap) (ax : List BackA) : Prop := ∃ v lc, Own h il [v] ∧ Own h rb (rdP r) ∧ Ow h 4 v lc ∧ All2 (BackR (Zn hA h v) h) lc ax ∧ ax.length ≤ 3 ∧ (∀ i ∈ slIds v, hA.n ≤ i) ∧ ExtX [r, il] hA h

theorem J21.step {hA h h' : Heap} {r il rb : Nat} {ax : List BackA} (hr : r < hA.n) (hf : r ≠ il) (hrb : r ≠ rb) (k : J21 hA r il rb h ax) (hE : ExtX [r] h h') : J21 hA r il rb h' ax := by
  obtain ⟨v, lc, k1, k2, k3, kb, k4, k5, k6⟩ := k
  refine ⟨v, lc, k1.ext hE (by simp; omega), k2.ext hE (by simp; omega), k3.ext hE (fun j hj e => by simp at e; have := k5 j hj; omega), kb.mono fun x y _ _ q => q.ext hE (fun j hj e => ?_) fun j hj => ⟨hj.1, Nat.lt_of_lt_of_le hj.2.1 hE.1, hj.2.2⟩, k4, k5, k6.step hE fun j hj => by simp at hj; exact .inl (by simp [hj])⟩
  simp at e
  have := hj.1
  omega

theorem read21_ok (hO : OffRd O) {hb hA h : Heap} {r il rb : Nat} {b : V} {bs : List Nat} {τ : Option (List Nat)} {ax : List BackA} (hB : RdB hb b bs) (hbA : hb.n ≤ hA.n) (hr : r < hA.n) (hf : il < hA.n) (hfb : hb.n ≤ il) (hrb : rb < hA.n) (n1 : r ≠ il) (n2 : r ≠ rb) (n3 : il ≠ rb) (hs : RdSt hb h r b bs τ) (hJ : J21 hA r il rb h ax) (hl : ax.length < 3) :
    WPc tab.get O 62 [.ptr rb 0 0 1, .ptr il 0 0 1] h (fun _ h' => ∃ x, RdSt hb h' r b bs (rst (aft cBack.dec τ)) ∧ J21 hA r il rb h' (ax ++ [x]) ∧ ∀ y l, aft cBack.dec τ = some (y, l) → x = y) := by
  obtain ⟨v, lc, q1, q2, q3, qb, q4, q5, q6⟩ := hJ
  refine w_fn' (hO.r21 _ _) rfl rfl (by simp only [c62, initV, nth] <;> rfl) ?_
  have hrh := hs.base.2.2
  have nA := q6.1
  have lv := q3.rs.lt
  refine w_seq (w_reg (w_alloc fun ix h1 hX hiX hE1 => ?_))
  replace hX : Own h1 ix [.int .i64 0, .int .i64 0, .nils, .nils] := hX
  have hXl := hX.1
  have m1 := hE1.1
  replace hs := hs.ext0 hE1
  replace q1 := q1.ext0 hE1
  replace q2 : Own h1 rb [.ptr r 0 0 3] := q2.ext0 hE1
  have E1 : ExtX [r] h h1 := hE1.mono (by simp)
  repeat' (first | refine w_seq ?_ | refine w_reg ?_ | refine w_end (by simp only [outsV, nth, setV, List.take_succ_cons, List.take_zero, List.length_cons, List.length_nil, Nat.zero_add, Nat.reduceAdd] <;> rfl) ?_ | refine w_fl rfl (by assumption) (by rfl) (by rfl) (by rfl) ?_)
  refine w_call rfl ((number_ok hO hB hs).mono fun _ h2 ⟨m, e, p1, p2, p3⟩ => ?_)
  subst e
  have m2 := p3.1
  replace q1 := q1.ext p3 (by simp; omega)
  replace q2 := q2.ext p3 (by simp; omega)
  have E2 := E1.trans p3
  replace hX := hX.ext p3 (by simp; omega)
  repeat' (first | refine w_opk rfl rfl ?_)
  refine w_store rfl rfl hX rfl rfl (by decide) (by simp) fun h3 hX2 y1 z1 => ?_
  clear hX
  have hX : Own h3 ix [.int .i64 (.ofNat m), .int .i64 0, .nils, .nils] := hX2
  clear hX2
  have m3 := y1.1
  replace q1 := q1.ext y1 (by simp; omega)
  replace q2 := q2.ext y1 (by simp; omega)
  have E3 := E2.step y1 fun j hj => by simp at hj; exact .inr (by omega)
  replace p2 := p2.ext y1 (by simp; omega) (fun j hj => by simp at hj; omega)
  repeat' (first | refine w_seq ?_ | refine w_reg ?_ | refine w_end (by simp only [outsV, nth, setV, List.take_succ_cons, List.take_zero, List.length_cons, List.length_nil, Nat.zero_add, Nat.reduceAdd] <;> rfl) ?_ | refine w_fl rfl (by assumption) (by rfl) (by rfl) (by rfl) ?_)
  refine w_call rfl ((number_ok hO hB p2).mono fun _ h4 ⟨n, e, s1, s2, s3⟩ => ?_)
  subst e
  have m4 := s3.1
  replace q1 := q1.ext s3 (by simp; omega)
  replace q2 := q2.ext s3 (by simp; omega)
  have E4 := E3.trans s3
  replace hX := hX.ext s3 (by simp; omega)
  repeat' (first | refine w_opk rfl rfl ?_)
  refine w_store rfl rfl hX rfl rfl (by decide) (by simp) fun h5 hX2 y2 z2 => ?_
  clear hX
  have hX : Own h5 ix [.int .i64 (.ofNat m), .int .i64 (.ofNat n), .nils, .nils] := hX2
  clear hX2
  have m5 := y2.1
  replace q1 := q1.ext y2 (by simp; omega)
  replace q2 := q2.ext y2 (by simp; omega)
  have E5 := E4.step y2 fun j hj => by simp at hj; exact .inr (by omega)
  replace s2 := s2.ext y2 (by simp; omega) (fun j hj => by simp at hj; omega)
  repeat' (first | refine w_seq ?_ | refine w_reg ?_ | refine w_end (by simp only [outsV, nth, setV, List.take_succ_cons, List.take_zero, List.length_cons, List.length_nil, Nat.zero_add, Nat.reduceAdd] <;> rfl) ?_ | refine w_fl rfl (by assumption) (by rfl) (by rfl) (by rfl) ?_)
  refine w_call rfl ((list_ok hO hB s2).mono fun vv h6 ⟨ls1, t1, t2, t3, t4, t5, t6⟩ => ?_)
  have m6 := t6.1
  have lvv := t1.rs.lt
  replace q1 := q1.ext t6 (by simp; omega)
  replace q2 := q2.ext t6 (by simp; omega)
  have E6 := E5.trans t6
  replace hX := hX.ext t6 (by simp; omega)
  repeat' (first | refine w_opk rfl rfl ?_)
  refine w_store rfl rfl hX (by rw [V.cells1 t1.rs.one]; rfl) (by rw [V.cells1 t1.rs.one]; simp only [allOne, t1.rs.one]) (by decide) (by simp) fun h7 hX2 y3 z3 => ?_
  clear hX
  rw [V.cells1 t1.rs.one] at hX2
  have hX : Own h7 ix [.int .i64 (.ofNat m), .int .i64 (.ofNat n), vv, .nils] := hX2
  clear hX2
  have m7 := y3.1
  replace q1 := q1.ext y3 (by simp; omega)
  replace q2 := q2.ext y3 (by simp; omega)
  replace t1 := t1.ext y3 (fun j hj e => by simp at e; have := t3 j hj; omega)
  have E7 := E6.step y3 fun j hj => by simp at hj; exact .inr (by omega)
  replace t5 := t5.ext y3 (by simp; omega) (fun j hj => by simp at hj; omega)
  repeat' (first | refine w_seq ?_ | refine w_reg ?_ | refine w_end (by simp only [outsV, nth, setV, List.take_succ_cons, List.take_zero, List.length_cons, List.length_nil, Nat.zero_add, Nat.reduceAdd] <;> rfl) ?_ | refine w_fl rfl (by assumption) (by rfl) (by rfl) (by rfl) ?_)
  refine w_call rfl ((list_ok hO hB t5).mono fun vs h8 ⟨ls2, w1, w2, w3, w4, w5, w6⟩ => ?_)
  have m8 := w6.1
  have lvs := w1.rs.lt
  replace q1 := q1.ext w6 (by simp; omega)
  replace q2 := q2.ext w6 (by simp; omega)
  replace t1 := t1.ext w6 (fun j hj e => by simp at e; have := t3 j hj; omega)
  have E8 := E7.trans w6
  replace hX := hX.ext w6 (by simp; omega)
  repeat' (first | refine w_opk rfl rfl ?_)
  refine w_store rfl rfl hX (by rw [V.cells1 w1.rs.one]; rfl) (by rw [V.cells1 w1.rs.one]; simp only [allOne, w1.rs.one]) (by decide) (by simp) fun h9 hX2 y4 z4 => ?_
  clear hX
  rw [V.cells1 w1.rs.one] at hX2
  have hX : Own h9 ix [.int .i64 (.ofNat m), .int .i64 (.ofNat n), vv, vs] := hX2
  clear hX2
  have m9 := y4.1
  replace q1 := q1.ext y4 (by simp; omega)
  replace q2 := q2.ext y4 (by simp; omega)
  replace t1 := t1.ext y4 (fun j hj e => by simp at e; have := t3 j hj; omega)
  replace w1 := w1.ext y4 (fun j hj e => by simp at e; have := w3 j hj; omega)
  have E9 := E8.step y4 fun j hj => by simp at hj; exact .inr (by omega)
  replace w5 := w5.ext y4 (by simp; omega) (fun j hj => by simp at hj; omega)
  replace q3 := q3.ext E9 (fun j hj e => by simp at e; have := q5 j hj; omega)
  replace qb : All2 (BackR (Zn hA h v) h9) lc ax := qb.mono fun x y _ _ q => q.ext E9 (fun j hj e => by simp at e; have := hj.1; omega) fun j hj => hj
  repeat' (first | refine w_reg ?_ | refine w_end (by simp only [outsV, nth, setV, List.take_succ_cons, List.take_zero, List.length_cons, List.length_nil, Nat.zero_add, Nat.reduceAdd] <;> rfl) ?_ | refine w_fl rfl (by assumption) (by rfl) (by rfl) (by rfl) ?_)
  refine w_loadA rfl (hX.at rfl) rfl ?_
  have hone : allOne [.int .i64 (.ofNat m), .int .i64 (.ofNat n), vv, vs] = true := by simp only [allOne, t1.rs.one, w1.rs.one]; rfl
  refine w_push rfl rfl rfl hone (fun _ => rfl) q3 (by have := qb.1; omega) fun a v' h10 hv' hf' => ?_
  have m10 := hf'.1.1
  have q1'' := q1.ext hf'.1 (fun e => by have := q5 il e; omega)
  have q2'' := q2.ext hf'.1 (fun e => by have := q5 rb e; omega)
  refine w_store rfl rfl q1'' (by rw [V.cells1 hv'.rs.one]; rfl) (by rw [V.cells1 hv'.rs.one]; simp only [allOne, hv'.rs.one]) (by decide) (by simp) fun h11 u1 u2 u3 => ?_
  rw [V.cells1 hv'.rs.one] at u1
  replace u1 : Own h11 il [v'] := u1
  have m11 := u2.1
  repeat' (first | refine w_end (by simp only [outsV, nth, setV, List.take_succ_cons, List.take_zero, List.length_cons, List.length_nil, Nat.zero_add, Nat.reduceAdd] <;> rfl) ?_ | refine w_rt rfl ?_)
  have hnew : ∀ i ∈ slIds v', hA.n ≤ i := fun i hi => by
    rcases hf'.2 i hi with e | e
    · exact q5 i e
    · omega
  have hrs5 := (w5.ext hf'.1 (fun e => by have := q5 r e; omega) (fun j hj => by have := q5 j hj; omega)).ext u2 (by simp; omega) (fun j hj => by simp at hj; omega)
  have hz : ∀ j, hA.n ≤ j → j < h9.n → j ∉ slIds v → Zn hA h11 v' j := fun j h1 h2 h3 => ⟨h1, by omega, fun e => by
    rcases hf'.2 j e with e | e
    · exact h3 e
    · omega⟩
  have hEE : ∀ j, hA.n ≤ j → j ∉ slIds v → j ∉ slIds v ++ [il] := fun j h1 h2 e => by
    rcases List.mem_append.1 e with e | e
    · exact h2 e
    · simp at e; omega
  have E11 : ExtX (slIds v ++ [il]) h9 h11 := (hf'.1.mono fun j hj => by simp [hj]).trans (u2.mono fun j hj => by simp at hj; simp [hj])
  have nvv : ∀ j ∈ slIds vv, hA.n ≤ j ∧ j < h9.n ∧ j ∉ slIds v := fun j hj => by
    have h1 := t3 j hj
    have h2 := lvv j hj
    exact ⟨by omega, by omega, fun e => by have := lv j e; omega⟩
  have nvs : ∀ j ∈ slIds vs, hA.n ≤ j ∧ j < h9.n ∧ j ∉ slIds v := fun j hj => by
    have h1 := w3 j hj
    have h2 := lvs j hj
    exact ⟨by omega, by omega, fun e => by have := lv j e; omega⟩
  refine ⟨(.ofNat m, .ofNat n, ls1, ls2), ?_, ⟨v', lc ++ [[.int .i64 (.ofNat m), .int .i64 (.ofNat n), vv, vs]], u1, q2''.ext u2 (by simp; omega), hv'.ext u2 (fun j hj e => by simp at e; have := hnew j hj; omega), All2.push ?_ ?_, by simp; omega, hnew, ?_⟩, ?_⟩
  · unfold cBack
    rw [rst_seq, rst_seq, rst_seq]
    exact hrs5
  · exact qb.mono fun x y _ _ q => q.ext E11 (fun j hj => hEE j hj.1 hj.2.2) fun j hj => hz j hj.1 (by have := hj.2.1; omega) hj.2.2
  · refine ⟨vv, vs, rfl, ⟨t1.rs.ext E11 fun id off len ver e f hv => ?_, fun j hj => ?_⟩, ⟨w1.rs.ext E11 fun id off len ver e f hv => ?_, fun j hj => ?_⟩⟩
    · obtain ⟨g1, g2, g3⟩ := nvv id (by rw [hv]; simp [slIds])
      exact hEE id g1 g3
    · obtain ⟨g1, g2, g3⟩ := nvv j hj
      exact hz j g1 g2 g3
    · obtain ⟨g1, g2, g3⟩ := nvs id (by rw [hv]; simp [slIds])
      exact hEE id g1 g3
    · obtain ⟨g1, g2, g3⟩ := nvs j hj
      exact hz j g1 g2 g3
  · exact ((q6.step E9 fun j hj => by simp at hj; exact .inl (by simp [hj])).step hf'.1 fun j hj => .inr (q5 j hj)).step u2 fun j hj => by simp at hj; exact .inl (by simp [hj])
  · intro y l e
    unfold cBack at e
    obtain ⟨⟨_, e0⟩, e⟩ := aft_seq e
    obtain ⟨⟨_, e1⟩, e⟩ := aft_seq e
    obtain ⟨⟨_, e2⟩, e⟩ := aft_seq e
    rw [p1 _ _ e0, s1 _ _ e1, t4 _ _ e2, w4 _ _ e]
end AmT
