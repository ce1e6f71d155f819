/-
  The reader's step of speculative code. Conditions: those of the reader.
-/
import Derived.Test.YtdeehlcjhmjofaaGreatDoorList
namespace AmT
open Go Am
set_option maxRecDepth 100000
set_option maxHeartbeats 4000000
set_option linter.unusedSimpArgs false
set_option linter.unusedVariables false
variable {O : CallF}

theorem step_ok (hO : OffRd O) {hb h0 : Heap} {r : Nat} {b : V} {bs : List Nat} {σ : Option (List Nat)} (hB : RdB hb b bs) (hs : RdSt hb h0 r b bs σ) :
    WPc tab.get O 60 [.ptr r 0 0 3] h0 (fun v h' => ∃ s : SpecA, v = .agg (specC s) ∧ (∀ x l, aft cSpec.dec σ = some (x, l) → s = x) ∧ RdSt hb h' r b bs (rst (aft cSpec.dec σ)) ∧ ExtX [r] h0 h') := by
  refine w_fn' (hO.st _ _) rfl rfl (by simp only [c60, initV, nth] <;> rfl) ?_
  have hr := hs.base.2.2
  have hbn := hs.base.2.1.1
  refine w_seq (w_reg (w_alloc fun ir h1 hR hiR hE1 => ?_))
  replace hR : Own h1 ir [.int .u8 0, .int .i64 0, .int .i64 0, .int .i64 0, .int .i64 0, .int .i64 0, .int .i64 0] := hR
  have n1 := hE1.1
  repeat' (first | refine w_seq ?_ | refine w_reg ?_ | refine w_end (by simp only [outsV, nth, setV, List.take_succ_cons, List.take_zero, List.length_cons, List.length_nil, Nat.zero_add, Nat.reduceAdd] <;> rfl) ?_ | refine w_opk rfl rfl ?_)
  refine w_callA [.ptr r 0 0 3, .int .u64 (.ofNat 255)] rfl ((upTo_ok hO hB (hs.ext0 hE1) (most := 255) (by decide) (by decide)).mono fun _ h2 ⟨m0, e, l0, a0, _, hs0, x0⟩ => ?_)
  subst e
  have n2 := x0.1
  replace hR := hR.ext x0 (by simp; omega)
  have hRl := hR.1
  refine w_toI (b := .ofNat m0) rfl (by rw [wrap_u8]; show ((m0 : Nat) : Int) % _ = ((m0 : Nat) : Int); omega) ?_
  refine w_build [.int .u8 (.ofNat m0), .int .i64 0, .int .i64 0, .int .i64 0, .int .i64 0, .int .i64 0, .int .i64 0] rfl rfl ?_
  refine w_alloc fun i2 h3 hI hiI hE3 => ?_
  refine w_store rfl rfl hI rfl rfl (by decide) (by simp) fun f0 hI2 y0 z0 => ?_
  clear hI
  have hI : Own f0 i2 [.int .u8 (.ofNat m0), .int .i64 0, .int .i64 0, .int .i64 0, .int .i64 0, .int .i64 0, .int .i64 0] := hI2
  clear hI2
  have n3 := hE3.1
  replace hR := (hR.ext0 hE3).ext y0 (by simp; omega)
  replace hs0 := (hs0.ext0 hE3).ext y0 (by simp; omega) (fun j hj => by simp at hj; omega)
  have E20 : ExtX [r] h0 f0 := ((hE1.mono (by simp)).trans x0).step ((hE3.mono (by simp)).trans y0) fun j hj => by simp at hj; exact .inr (by omega)
  repeat' (first | refine w_seq ?_ | refine w_reg ?_ | refine w_end (by simp only [outsV, nth, setV, List.take_succ_cons, List.take_zero, List.length_cons, List.length_nil, Nat.zero_add, Nat.reduceAdd] <;> rfl) ?_ | refine w_opk rfl rfl ?_)
  refine w_build [.ptr i2 (0 + 1) 0 7, .ptr i2 (0 + 2) 0 7, .ptr i2 (0 + 3) 0 7, .ptr i2 (0 + 4) 0 7, .ptr i2 (0 + 5) 0 7] rfl rfl ?_
  repeat' (first | refine w_end (by simp only [outsV, nth, setV, List.take_succ_cons, List.take_zero, List.length_cons, List.length_nil, Nat.zero_add, Nat.reduceAdd] <;> rfl) ?_ | refine w_opk rfl rfl ?_)
  refine w_block ?_
  refine w_loop_step ?_
  repeat' (first | refine w_seq ?_ | refine w_reg ?_ | refine w_end (by simp only [outsV, nth, setV, List.take_succ_cons, List.take_zero, List.length_cons, List.length_nil, Nat.zero_add, Nat.reduceAdd] <;> rfl) ?_ | refine w_opk rfl rfl ?_ | refine w_cond_t rfl ?_ | refine w_skip ?_)
  refine w_block ?_
  repeat' (first | refine w_seq ?_ | refine w_reg ?_ | refine w_end (by simp only [outsV, nth, setV, List.take_succ_cons, List.take_zero, List.length_cons, List.length_nil, Nat.zero_add, Nat.reduceAdd] <;> rfl) ?_ | refine w_opk rfl rfl ?_)
  refine w_call rfl ((number_ok hO hB hs0).mono fun _ g1 ⟨m1, e, a1, hs1, x1⟩ => ?_)
  subst e
  replace hI := hI.ext x1 (by simp; omega)
  replace hR := hR.ext x1 (by simp; omega)
  have E11 := E20.step x1 fun j hj => .inl hj
  repeat' (first | refine w_opk rfl rfl ?_)
  refine w_store rfl rfl hI rfl rfl (by decide) (by simp) fun f1 hI2 y1 z1 => ?_
  clear hI
  have hI : Own f1 i2 [.int .u8 (.ofNat m0), .int .i64 (.ofNat m1), .int .i64 0, .int .i64 0, .int .i64 0, .int .i64 0, .int .i64 0] := hI2
  clear hI2
  replace hR := hR.ext y1 (by simp; omega)
  replace hs1 := hs1.ext y1 (by simp; omega) (fun j hj => by simp at hj; omega)
  have E21 := E11.step y1 fun j hj => by simp at hj; exact .inr (by omega)
  repeat' (first | refine w_reg ?_ | refine w_end (by simp only [outsV, nth, setV, List.take_succ_cons, List.take_zero, List.length_cons, List.length_nil, Nat.zero_add, Nat.reduceAdd] <;> rfl) ?_ | refine w_addN rfl rfl (by omega) ?_ | refine w_opk rfl rfl ?_)
  refine w_loop_step ?_
  repeat' (first | refine w_seq ?_ | refine w_reg ?_ | refine w_end (by simp only [outsV, nth, setV, List.take_succ_cons, List.take_zero, List.length_cons, List.length_nil, Nat.zero_add, Nat.reduceAdd] <;> rfl) ?_ | refine w_opk rfl rfl ?_ | refine w_cond_t rfl ?_ | refine w_skip ?_)
  refine w_block ?_
  repeat' (first | refine w_seq ?_ | refine w_reg ?_ | refine w_end (by simp only [outsV, nth, setV, List.take_succ_cons, List.take_zero, List.length_cons, List.length_nil, Nat.zero_add, Nat.reduceAdd] <;> rfl) ?_ | refine w_opk rfl rfl ?_)
  refine w_call rfl ((number_ok hO hB hs1).mono fun _ g2 ⟨m2, e, a2, hs2, x2⟩ => ?_)
  subst e
  replace hI := hI.ext x2 (by simp; omega)
  replace hR := hR.ext x2 (by simp; omega)
  have E12 := E21.step x2 fun j hj => .inl hj
  repeat' (first | refine w_opk rfl rfl ?_)
  refine w_store rfl rfl hI rfl rfl (by decide) (by simp) fun f2 hI2 y2 z2 => ?_
  clear hI
  have hI : Own f2 i2 [.int .u8 (.ofNat m0), .int .i64 (.ofNat m1), .int .i64 (.ofNat m2), .int .i64 0, .int .i64 0, .int .i64 0, .int .i64 0] := hI2
  clear hI2
  replace hR := hR.ext y2 (by simp; omega)
  replace hs2 := hs2.ext y2 (by simp; omega) (fun j hj => by simp at hj; omega)
  have E22 := E12.step y2 fun j hj => by simp at hj; exact .inr (by omega)
  repeat' (first | refine w_reg ?_ | refine w_end (by simp only [outsV, nth, setV, List.take_succ_cons, List.take_zero, List.length_cons, List.length_nil, Nat.zero_add, Nat.reduceAdd] <;> rfl) ?_ | refine w_addN rfl rfl (by omega) ?_ | refine w_opk rfl rfl ?_)
  refine w_loop_step ?_
  repeat' (first | refine w_seq ?_ | refine w_reg ?_ | refine w_end (by simp only [outsV, nth, setV, List.take_succ_cons, List.take_zero, List.length_cons, List.length_nil, Nat.zero_add, Nat.reduceAdd] <;> rfl) ?_ | refine w_opk rfl rfl ?_ | refine w_cond_t rfl ?_ | refine w_skip ?_)
  refine w_block ?_
  repeat' (first | refine w_seq ?_ | refine w_reg ?_ | refine w_end (by simp only [outsV, nth, setV, List.take_succ_cons, List.take_zero, List.length_cons, List.length_nil, Nat.zero_add, Nat.reduceAdd] <;> rfl) ?_ | refine w_opk rfl rfl ?_)
  refine w_call rfl ((number_ok hO hB hs2).mono fun _ g3 ⟨m3, e, a3, hs3, x3⟩ => ?_)
  subst e
  replace hI := hI.ext x3 (by simp; omega)
  replace hR := hR.ext x3 (by simp; omega)
  have E13 := E22.step x3 fun j hj => .inl hj
  repeat' (first | refine w_opk rfl rfl ?_)
  refine w_store rfl rfl hI rfl rfl (by decide) (by simp) fun f3 hI2 y3 z3 => ?_
  clear hI
  have hI : Own f3 i2 [.int .u8 (.ofNat m0), .int .i64 (.ofNat m1), .int .i64 (.ofNat m2), .int .i64 (.ofNat m3), .int .i64 0, .int .i64 0, .int .i64 0] := hI2
  clear hI2
  replace hR := hR.ext y3 (by simp; omega)
  replace hs3 := hs3.ext y3 (by simp; omega) (fun j hj => by simp at hj; omega)
  have E23 := E13.step y3 fun j hj => by simp at hj; exact .inr (by omega)
  repeat' (first | refine w_reg ?_ | refine w_end (by simp only [outsV, nth, setV, List.take_succ_cons, List.take_zero, List.length_cons, List.length_nil, Nat.zero_add, Nat.reduceAdd] <;> rfl) ?_ | refine w_addN rfl rfl (by omega) ?_ | refine w_opk rfl rfl ?_)
  refine w_loop_step ?_
  repeat' (first | refine w_seq ?_ | refine w_reg ?_ | refine w_end (by simp only [outsV, nth, setV, List.take_succ_cons, List.take_zero, List.length_cons, List.length_nil, Nat.zero_add, Nat.reduceAdd] <;> rfl) ?_ | refine w_opk rfl rfl ?_ | refine w_cond_t rfl ?_ | refine w_skip ?_)
  refine w_block ?_
  repeat' (first | refine w_seq ?_ | refine w_reg ?_ | refine w_end (by simp only [outsV, nth, setV, List.take_succ_cons, List.take_zero, List.length_cons, List.length_nil, Nat.zero_add, Nat.reduceAdd] <;> rfl) ?_ | refine w_opk rfl rfl ?_)
  refine w_call rfl ((number_ok hO hB hs3).mono fun _ g4 ⟨m4, e, a4, hs4, x4⟩ => ?_)
  subst e
  replace hI := hI.ext x4 (by simp; omega)
  replace hR := hR.ext x4 (by simp; omega)
  have E14 := E23.step x4 fun j hj => .inl hj
  repeat' (first | refine w_opk rfl rfl ?_)
  refine w_store rfl rfl hI rfl rfl (by decide) (by simp) fun f4 hI2 y4 z4 => ?_
  clear hI
  have hI : Own f4 i2 [.int .u8 (.ofNat m0), .int .i64 (.ofNat m1), .int .i64 (.ofNat m2), .int .i64 (.ofNat m3), .int .i64 (.ofNat m4), .int .i64 0, .int .i64 0] := hI2
  clear hI2
  replace hR := hR.ext y4 (by simp; omega)
  replace hs4 := hs4.ext y4 (by simp; omega) (fun j hj => by simp at hj; omega)
  have E24 := E14.step y4 fun j hj => by simp at hj; exact .inr (by omega)
  repeat' (first | refine w_reg ?_ | refine w_end (by simp only [outsV, nth, setV, List.take_succ_cons, List.take_zero, List.length_cons, List.length_nil, Nat.zero_add, Nat.reduceAdd] <;> rfl) ?_ | refine w_addN rfl rfl (by omega) ?_ | refine w_opk rfl rfl ?_)
  refine w_loop_step ?_
  repeat' (first | refine w_seq ?_ | refine w_reg ?_ | refine w_end (by simp only [outsV, nth, setV, List.take_succ_cons, List.take_zero, List.length_cons, List.length_nil, Nat.zero_add, Nat.reduceAdd] <;> rfl) ?_ | refine w_opk rfl rfl ?_ | refine w_cond_t rfl ?_ | refine w_skip ?_)
  refine w_block ?_
  repeat' (first | refine w_seq ?_ | refine w_reg ?_ | refine w_end (by simp only [outsV, nth, setV, List.take_succ_cons, List.take_zero, List.length_cons, List.length_nil, Nat.zero_add, Nat.reduceAdd] <;> rfl) ?_ | refine w_opk rfl rfl ?_)
  refine w_call rfl ((number_ok hO hB hs4).mono fun _ g5 ⟨m5, e, a5, hs5, x5⟩ => ?_)
  subst e
  replace hI := hI.ext x5 (by simp; omega)
  replace hR := hR.ext x5 (by simp; omega)
  have E15 := E24.step x5 fun j hj => .inl hj
  repeat' (first | refine w_opk rfl rfl ?_)
  refine w_store rfl rfl hI rfl rfl (by decide) (by simp) fun f5 hI2 y5 z5 => ?_
  clear hI
  have hI : Own f5 i2 [.int .u8 (.ofNat m0), .int .i64 (.ofNat m1), .int .i64 (.ofNat m2), .int .i64 (.ofNat m3), .int .i64 (.ofNat m4), .int .i64 (.ofNat m5), .int .i64 0] := hI2
  clear hI2
  replace hR := hR.ext y5 (by simp; omega)
  replace hs5 := hs5.ext y5 (by simp; omega) (fun j hj => by simp at hj; omega)
  have E25 := E15.step y5 fun j hj => by simp at hj; exact .inr (by omega)
  repeat' (first | refine w_reg ?_ | refine w_end (by simp only [outsV, nth, setV, List.take_succ_cons, List.take_zero, List.length_cons, List.length_nil, Nat.zero_add, Nat.reduceAdd] <;> rfl) ?_ | refine w_addN rfl rfl (by omega) ?_ | refine w_opk rfl rfl ?_)
  refine w_loop_step ?_
  repeat' (first | refine w_seq ?_ | refine w_reg ?_ | refine w_end (by simp only [outsV, nth, setV, List.take_succ_cons, List.take_zero, List.length_cons, List.length_nil, Nat.zero_add, Nat.reduceAdd] <;> rfl) ?_ | refine w_opk rfl rfl ?_ | refine w_cond_f rfl ?_ | refine w_exit rfl ?_)
  refine w_call rfl ((exit_ok hO hB hs5).mono fun _ g6 ⟨ex, e, a6, hs6, x6⟩ => ?_)
  subst e
  replace hI := hI.ext x6 (by simp; omega)
  replace hR := hR.ext x6 (by simp; omega)
  have E16 := E25.step x6 fun j hj => .inl hj
  repeat' (first | refine w_opk rfl rfl ?_)
  refine w_store rfl rfl hI rfl rfl (by decide) (by simp) fun f6 hI2 y6 z6 => ?_
  clear hI
  have hI : Own f6 i2 [.int .u8 (.ofNat m0), .int .i64 (.ofNat m1), .int .i64 (.ofNat m2), .int .i64 (.ofNat m3), .int .i64 (.ofNat m4), .int .i64 (.ofNat m5), .int .i64 ex] := hI2
  clear hI2
  replace hR := hR.ext y6 (by simp; omega)
  replace hs6 := hs6.ext y6 (by simp; omega) (fun j hj => by simp at hj; omega)
  have E26 := E16.step y6 fun j hj => by simp at hj; exact .inr (by omega)
  repeat' (first | refine w_seq ?_ | refine w_reg ?_ | refine w_end (by simp only [outsV, nth, setV, List.take_succ_cons, List.take_zero, List.length_cons, List.length_nil, Nat.zero_add, Nat.reduceAdd] <;> rfl) ?_)
  refine w_loadA rfl (hI.at rfl) rfl ?_
  refine w_store rfl rfl hR rfl rfl (by decide) (by simp) fun f7 hR2 y7 z7 => ?_
  replace hs6 := hs6.ext y7 (by simp; omega) (fun j hj => by simp at hj; omega)
  have E27 := E26.step y7 fun j hj => by simp at hj; exact .inr (by omega)
  repeat' (first | refine w_end (by simp only [outsV, nth, setV, List.take_succ_cons, List.take_zero, List.length_cons, List.length_nil, Nat.zero_add, Nat.reduceAdd] <;> rfl) ?_ | refine w_ret ?_)
  have hrd : rd f7 true 7 (.ptr ir 0 0 7) = some (.agg (specC (.ofNat m0, .ofNat m1, .ofNat m2, .ofNat m3, .ofNat m4, .ofNat m5, ex))) := rd_own hR2 rfl rfl
  refine w_rt (l := [.agg (specC (.ofNat m0, .ofNat m1, .ofNat m2, .ofNat m3, .ofNat m4, .ofNat m5, ex))]) ?_ ⟨(.ofNat m0, .ofNat m1, .ofNat m2, .ofNat m3, .ofNat m4, .ofNat m5, ex), rfl, ?_, ?_, E27⟩
  · show (match (rd f7 true 7 (.ptr ir 0 0 7)), (some [] : Option (List V)) with
      | some v, some l => some (v :: l)
      | _, _ => none) = _
    rw [hrd]
  · intro x l e
    unfold cSpec at e
    obtain ⟨⟨_, e0⟩, e⟩ := aft_seq e
    obtain ⟨⟨_, e1⟩, e⟩ := aft_seq e
    obtain ⟨⟨_, e2⟩, e⟩ := aft_seq e
    obtain ⟨⟨_, e3⟩, e⟩ := aft_seq e
    obtain ⟨⟨_, e4⟩, e⟩ := aft_seq e
    obtain ⟨⟨_, e5⟩, e⟩ := aft_seq e
    rw [a0 _ _ e0, a1 _ _ e1, a2 _ _ e2, a3 _ _ e3, a4 _ _ e4, a5 _ _ e5, a6 _ _ e]
  · unfold cSpec
    rw [rst_seq, rst_seq, rst_seq, rst_seq, rst_seq, rst_seq]
    exact hs6
end AmT
