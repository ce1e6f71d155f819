/-
  The writer of speculative code: numbers, and how many there are. Conditions: the writer lies apart from the numbers; not too much is written.
-/
import Derived.Test.YtdeehlcjhmjofaaGreatDoorRead
namespace AmT
open Go Am
set_option maxRecDepth 100000
set_option maxHeartbeats 4000000
set_option linter.unusedSimpArgs false
set_option linter.unusedVariables false
variable {O : CallF}

structure OffWr (O : CallF) : Prop where
  u : ∀ a h, O 56 a h = none
  i : ∀ a h, O 55 a h = none
  pu : ∀ a h, O 53 a h = none
  co : ∀ a h, O 54 a h = none
  by_ : ∀ a h, O 26 a h = none

/-- The writer, one truth more. -/
theorem wr_bad {hb h : Heap} {w : Nat} {bv : V} {l : List Nat} {bad : Bool} (k : WrSt hb h w bv l bad) {h' : Heap} {b2 : Bool} (k1 : Own h' w (splice [bv, .bool bad] (0 + 1) (V.bool b2).cells)) (k2 : ExtX [w] h h') : WrSt hb h' w bv l b2 ∧ WrFr w h bv h' bv := by
  obtain ⟨q1, q2, q3, q4, q5⟩ := k
  refine ⟨⟨q1, q2.step k2 fun j hj => by simp at hj; exact .inr (by omega), k1, q4.ext k2 (fun j hj e => by simp at e; exact (q5 j hj).2 e), q5⟩, k2.mono fun j hj => ?_, fun j hj => .inl hj⟩
  simp at hj; simp [hj]

/-- The writer, more bytes. -/
theorem wr_more {hb h : Heap} {w : Nat} {bv : V} {l : List Nat} {bad : Bool} (k : WrSt hb h w bv l bad) {h1 h' : Heap} {bv' : V} {l' : List Nat} (ho : Ow h1 1 bv' (l'.map byteC)) (hf : Fr h bv h1 bv') (k1 : Own h' w (splice [bv, .bool bad] (0 + 0) bv'.cells)) (k2 : ExtX [w] h1 h') (hw : w < h.n) : WrSt hb h' w bv' l' bad ∧ WrFr w h bv h' bv' := by
  obtain ⟨q1, q2, q3, q4, q5⟩ := k
  have hn : ∀ j ∈ slIds bv', hb.n ≤ j ∧ j ≠ w := fun j hj => by
    rcases hf.2 j hj with e | e
    · exact q5 j e
    · have := q2.1; exact ⟨by omega, by omega⟩
  rw [V.cells1 ho.rs.one] at k1
  refine ⟨⟨q1, (q2.step hf.1 fun j hj => .inr (q5 j hj).1).step k2 fun j hj => by simp at hj; exact .inr (by omega), k1, ho.ext k2 (fun j hj e => by simp at e; exact (hn j hj).2 e), hn⟩, ?_, hf.2⟩
  exact (hf.1.mono fun j hj => by simp [hj]).trans (k2.mono fun j hj => by simp at hj; simp [hj])

theorem put_w_ok (hO : OffWr O) {hb h0 : Heap} {w : Nat} {bv lv : V} {l : List Nat} {bad : Bool} {ns : List Int} (hs : WrSt hb h0 w bv l bad) (hl : RS h0 1 lv (ns.map intC)) (ha : ∀ j ∈ slIds lv, j ≠ w ∧ j ∉ slIds bv) (hr : l.length + (encL encI ns).length ≤ 4000000000) (hn : ns.length ≤ 4000000000) :
    WPc tab.get O 53 [.ptr w 0 0 2, lv] h0 (fun _ h' => ∃ bv', WrSt hb h' w bv' (l ++ encL encI ns) (bad || ns.any badI) ∧ WrFr w h0 bv h' bv') := by
  refine w_fn' (hO.pu _ _) rfl rfl (by simp only [c53, initV, nth] <;> rfl) ?_
  repeat' (first | refine w_seq ?_ | refine w_reg ?_ | refine w_end (by simp only [outsV, nth, setV, List.take_succ_cons, List.take_zero, List.length_cons, List.length_nil, Nat.zero_add, Nat.reduceAdd] <;> rfl) ?_ | refine w_len rfl (by assumption) ?_ | refine w_opk rfl rfl ?_)
  refine w_count (fun j vs h => ∃ bv' b4 b6, vs = [.ptr w 0 0 2, lv, .int .i64 (.ofNat j), .int .i64 (.ofNat (ns.map intC).length), b4, lv, b6] ∧ WrSt hb h w bv' (l ++ encL encI (ns.take j)) (bad || (ns.take j).any badI) ∧ WrFr w h0 bv h bv') (ns.map intC).length ⟨_, _, _, rfl, by simpa [encL] using hs, WrFr.refl _ _ _⟩ ?_
  rintro j vs h hj ⟨bv', b4, b6, rfl, k1, k2⟩
  have k3 := k1.2.2.1
  have k4 := k1.2.2.2.1
  have hrs := k2.rs hl ha
  have hap := k2.apart hl.lt ha
  repeat' (first | refine w_seq ?_ | refine w_reg ?_ | refine w_end (by simp only [outsV, nth, setV, List.take_succ_cons, List.take_zero, List.length_cons, List.length_nil, Nat.zero_add, Nat.reduceAdd] <;> rfl) ?_ | refine w_lssN rfl rfl (fun hc => ?_) (fun hc => ?_) | refine w_cond_t rfl ?_ | refine w_cond_f rfl ?_ | refine w_skip ?_ | refine w_exit rfl ?_ | refine w_rt rfl ?_)
  · have hj1 : j < (ns.map intC).length := by assumption
    have hj2 : j < ns.length := by simpa using hj1
    refine w_block ?_
    repeat' (first | refine w_seq ?_ | refine w_reg ?_)
    refine w_iadrS rfl rfl hrs hj1 ?_
    have hA := slot_at hrs hj1
    rw [List.getElem_map] at hA
    refine w_load1 (c := []) rfl hA rfl ?_
    have htk : ns.take (j + 1) = ns.take j ++ [ns[j]] := (List.take_append_getElem hj2).symm
    have hen : l ++ encL encI (ns.take (j + 1)) = (l ++ encL encI (ns.take j)) ++ encI ns[j] := by rw [htk, encL_append]; simp [encL]
    have hlen : (l ++ encL encI (ns.take j)).length ≤ 4000000000 := by
      have : (encL encI ns).length = (encL encI (ns.take j)).length + (encL encI (ns.drop j)).length := by rw [← List.length_append, ← encL_append, List.take_append_drop]
      rw [List.length_append]
      omega
    have hba : (bad || (ns.take (j + 1)).any badI) = ((bad || (ns.take j).any badI) || badI ns[j]) := by rw [htk, List.any_append, List.any_cons, List.any_nil, Bool.or_false, Bool.or_assoc]
    rw [hba, hen]
    generalize ns[j] = n at *
    generalize l ++ encL encI (ns.take j) = l1 at *
    generalize (bad || (ns.take j).any badI) = bad1 at *
    have hwl : w < h.n := k3.1
    have z0 : Int.ofNat 0 = 0 := rfl
    have z1 : Int.ofNat 1048576 = 1048576 := rfl
    generalize hnb : (bad1 || badI n) = nb at *
    cases bad1 <;> (
      repeat' (first | refine w_seq ?_ | refine w_reg ?_ | refine w_end (by simp only [outsV, nth, setV, List.take_succ_cons, List.take_zero, List.length_cons, List.length_nil, Nat.zero_add, Nat.reduceAdd] <;> rfl) ?_ | refine w_off rfl ?_ | refine w_rf rfl (by assumption) (by rfl) (by rfl) (by rfl) ?_ | refine w_on rfl ?_ | refine w_lss rfl rfl (fun hc => ?_) (fun hc => ?_) | refine w_gtr rfl rfl (fun hc => ?_) (fun hc => ?_) | refine w_opk rfl rfl ?_)
      all_goals refine w_store rfl rfl k3 rfl rfl (by decide) (by simp) fun h1 u1 u2 u3 => ?_
      all_goals obtain ⟨r1, r2⟩ := wr_bad k1 u1 u2
      all_goals replace r1 : WrSt hb h1 w bv' l1 nb := (by
        rw [← hnb]
        first
        | exact r1
        | (rw [show badI n = true by unfold badI; simp; omega]; exact r1)
        | (rw [show badI n = false by unfold badI; simp; omega]; exact r1))
      all_goals have k5 := r1.2.2.1
      all_goals have k6 := r1.2.2.2.1
      all_goals clear u1
      repeat' (first | refine w_reg ?_ | refine w_end (by simp only [outsV, nth, setV, List.take_succ_cons, List.take_zero, List.length_cons, List.length_nil, Nat.zero_add, Nat.reduceAdd] <;> rfl) ?_ | refine w_rf rfl (by assumption) (by rfl) (by rfl) (by rfl) ?_ | refine w_opk rfl rfl ?_)
      all_goals obtain ⟨k, ek, lk, ik⟩ := wrap_u64_nat n
      all_goals refine w_call rfl ((enc_ok hO.u ek lk k6 hlen).mono fun bv2 h2 ⟨t1, t2⟩ => ?_)
      all_goals rw [← ik] at t1
      all_goals have k7 := k5.ext t2.1 (fun e => (r1.2.2.2.2 w e).2 rfl)
      repeat' (first | refine w_opk rfl rfl ?_)
      all_goals refine w_store rfl rfl k7 (by rw [V.cells1 t1.rs.one]; rfl) (by rw [V.cells1 t1.rs.one]; simp only [allOne, t1.rs.one]) (by decide) (by simp) fun h3 x1 x2 x3 => ?_
      all_goals obtain ⟨e1, e2⟩ := wr_more r1 t1 t2 x1 x2 r1.2.2.1.1
      repeat' (first | refine w_reg ?_ | refine w_end (by simp only [outsV, nth, setV, List.take_succ_cons, List.take_zero, List.length_cons, List.length_nil, Nat.zero_add, Nat.reduceAdd] <;> rfl) ?_ | refine w_addN rfl rfl (by omega) ?_ | refine w_opk rfl rfl ?_)
      all_goals exact ⟨hj1, bv2, _, _, rfl, e1, (k2.trans r2).trans e2⟩)
  · have hj1 : (ns.map intC).length ≤ j := by assumption
    rw [List.take_of_length_le (by simpa using hj1)] at k1
    exact ⟨bv', k1, k2⟩

theorem count_w_ok (hO : OffWr O) {hb h0 : Heap} {w : Nat} {bv : V} {l : List Nat} {bad : Bool} {n most : Nat} (hs : WrSt hb h0 w bv l bad) (hm : most ≤ 1048576) (hn : n ≤ 4294967296) (hr : l.length + (encU 9 n).length ≤ 4000000000) :
    WPc tab.get O 54 [.ptr w 0 0 2, .int .i64 (.ofNat n), .int .i64 (.ofNat most)] h0 (fun _ h' => ∃ bv', WrSt hb h' w bv' (l ++ encU 9 n) (bad || decide (most < n)) ∧ WrFr w h0 bv h' bv') := by
  refine w_fn' (hO.co _ _) rfl rfl (by simp only [c54, initV, nth] <;> rfl) ?_
  have k3 := hs.2.2.1
  have hwl := k3.1
  have hen : encL encI [Int.ofNat n] = encU 9 n := by
    simp only [encL, List.append_nil]
    exact encI_nat n (by omega)
  have z1 : Int.ofNat n = (n : Int) := rfl
  generalize hnb : (bad || decide (most < n)) = nb at *
  cases bad <;> (
    repeat' (first | refine w_seq ?_ | refine w_reg ?_ | refine w_off rfl ?_ | refine w_rf rfl (by assumption) (by rfl) (by rfl) (by rfl) ?_ | refine w_on rfl ?_ | refine w_gtrN rfl rfl (fun hc => ?_) (fun hc => ?_) | refine w_opk rfl rfl ?_)
    all_goals refine w_store rfl rfl k3 rfl rfl (by decide) (by simp) fun h1 u1 u2 u3 => ?_
    all_goals obtain ⟨r1, r2⟩ := wr_bad hs u1 u2
    all_goals replace r1 : WrSt hb h1 w bv l nb := (by
      rw [← hnb]
      first
      | exact r1
      | (rw [show decide (most < n) = true from decide_eq_true (by omega)]; exact r1)
      | (rw [show decide (most < n) = false from decide_eq_false (by omega)]; exact r1))
    all_goals clear u1
    repeat' (first | refine w_reg ?_ | refine w_end (by simp only [outsV, nth, setV, List.take_succ_cons, List.take_zero, List.length_cons, List.length_nil, Nat.zero_add, Nat.reduceAdd] <;> rfl) ?_ | refine w_opk rfl rfl ?_)
    all_goals refine w_lit1 rfl rfl rfl rfl fun lv h2 o1 f1 => ?_
    all_goals have hlv : ∀ j ∈ slIds lv, h1.n ≤ j := fun j hj => (f1.2 j hj).resolve_left (by simp [slIds])
    all_goals refine w_callA [.ptr w 0 0 2, lv] rfl ((put_w_ok (ns := [Int.ofNat n]) hO (r1.ext0 f1.ext0) o1.rs (fun j hj => ⟨fun e => by have := hlv j hj; have := r1.2.2.1.1; omega, fun e => by have := hlv j hj; have := r1.2.2.2.1.rs.lt j e; omega⟩) (by rw [hen]; exact hr) (by simp)).mono fun _ h3 ⟨bv', t1, t2⟩ => ?_)
    repeat' (first | refine w_end (by simp only [outsV, nth, setV, List.take_succ_cons, List.take_zero, List.length_cons, List.length_nil, Nat.zero_add, Nat.reduceAdd] <;> rfl) ?_ | refine w_rt rfl ?_)
    all_goals refine ⟨bv', ?_, (r2.trans (WrFr.of_ext _ f1.ext0)).trans t2⟩
    all_goals rw [hen] at t1
    all_goals have hfin : (nb || List.any [Int.ofNat n] badI) = nb := (by
      rw [← hnb]
      by_cases hc2 : 1048576 < n
      · rw [show decide (most < n) = true from decide_eq_true (by omega)]
        simp
      · have : badI (Int.ofNat n) = false := by unfold badI; rw [z1]; simp; omega
        rw [List.any_cons, this, List.any_nil]
        simp)
    all_goals rw [hfin] at t1
    all_goals exact t1)
end AmT
