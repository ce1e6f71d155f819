/-
  droverlaw13.Great answers, and Same says so of two profiles that are the same. Conditions: they are profiles, by their cells.
-/
import Derived.Test.YtclkhkphpkdnaaaGreatDoorAdd
namespace AmT
open Go Am
set_option maxRecDepth 100000
set_option maxHeartbeats 4000000
set_option linter.unusedSimpArgs false
set_option linter.unusedVariables false
variable {O : CallF}

theorem great13_ok (hO : ∀ a h, O 5 a h = none) {h0 : Heap} {a : V} {P : List SeenT} (ha : ProfR h0 a P) :
    WPc tab.get O 5 [.agg [a]] h0 (fun v h' => (∃ b, v = .bool b) ∧ Ext h0 h') := by
  refine w_fn' (hO _ _) rfl rfl (by simp only [c5, initV, nth] <;> rfl) ?_
  have ha0 := ha
  obtain ⟨l, ra, ea, ba, sa⟩ := ha
  refine w_seq (w_reg (w_box rfl rfl (by simp only [V.cells, allOne, ra.one]) fun id h1 ho hn hE => ?_))
  replace ra := ra.ext0 hE
  repeat' (first | refine w_seq ?_ | refine w_reg ?_ | refine w_end (by simp only [outsV, nth, setV, List.take_succ_cons, List.take_zero, List.length_cons, List.length_nil, Nat.zero_add, Nat.reduceAdd] <;> rfl) ?_ | refine w_rf rfl (by assumption) (by rfl) (by rfl) (by rfl) ?_ | refine w_len rfl (by assumption) ?_ | refine w_opk rfl rfl ?_)
  refine w_count (fun j vs h => h1 = h ∧ ∃ b n w, vs = [.agg [a], .bool false, .ptr id 0 0 1, .int .i64 (.ofNat j), .int .i64 (.ofNat l.length), b, .int .i64 n, w]) l.length ⟨rfl, _, _, _, rfl⟩ ?_
  rintro j vs h hj ⟨rfl, b, n, w, rfl⟩
  repeat' (first | refine w_seq ?_ | refine w_reg ?_ | refine w_end (by simp only [outsV, nth, setV, List.take_succ_cons, List.take_zero, List.length_cons, List.length_nil, Nat.zero_add, Nat.reduceAdd] <;> rfl) ?_ | refine w_lssN rfl rfl (fun hc => ?_) (fun hc => ?_) | refine w_gtr rfl rfl (fun hc => ?_) (fun hc => ?_) | refine w_opk rfl rfl ?_ | refine w_cond_t rfl ?_ | refine w_cond_f rfl ?_ | refine w_skip ?_ | refine w_exit rfl ?_ | refine w_ret ?_ | refine w_rt rfl ?_)
  · refine w_block ?_
    repeat' (first | refine w_seq ?_ | refine w_reg ?_ | refine w_end (by simp only [outsV, nth, setV, List.take_succ_cons, List.take_zero, List.length_cons, List.length_nil, Nat.zero_add, Nat.reduceAdd] <;> rfl) ?_ | refine w_rf rfl (by assumption) (by rfl) (by rfl) (by rfl) ?_ | refine w_opk rfl rfl ?_)
    have hj1 : j < l.length := hc
    have hj2 : j < P.length := by omega
    obtain ⟨tv, e, r, _⟩ := sa j l[j] P[j] (List.getElem?_eq_getElem hj1) (List.getElem?_eq_getElem hj2)
    have rt := r.ext0 hE
    refine w_iadrS rfl rfl ra hj1 ?_
    have hA := slot_at ra hj1
    rw [e] at hA
    refine w_fadr rfl hA rfl fun hA1 => ?_
    refine w_load1 (c := []) rfl hA1 rfl ?_
    repeat' (first | refine w_reg ?_ | refine w_end (by simp only [outsV, nth, setV, List.take_succ_cons, List.take_zero, List.length_cons, List.length_nil, Nat.zero_add, Nat.reduceAdd] <;> rfl) ?_ | refine w_len rfl (by assumption) ?_ | refine w_addN rfl rfl (by omega) ?_ | refine w_opk rfl rfl ?_)
    exact ⟨hj1, rfl, _, _, _, rfl⟩
  · exact ⟨⟨_, rfl⟩, hE⟩
  · exact ⟨⟨_, rfl⟩, hE⟩

theorem top_neq {x : Int × Int} : binV .neq (.agg [.int .u8, .int .u8]) (.agg (List.take 2 (topC x))) (.agg (List.take 2 (topC x))) = some (.bool false) := by
  simp [binV, eqV, topC, eqScalars, KK.has, eqScalar]

theorem same13_ok (hO : ∀ a h, O 8 a h = none) {h0 : Heap} {a b : V} {P : List SeenT} (ha : ProfR h0 a P) (hb : ProfR h0 b P) :
    WPc tab.get O 8 [.agg [a], .agg [b]] h0 (fun v h' => v = .bool true ∧ Ext h0 h') := by
  refine w_fn' (hO _ _) rfl rfl (by simp only [c8, initV, nth] <;> rfl) ?_
  obtain ⟨la, ra, ea, ba, sa⟩ := ha
  obtain ⟨lb, rb, eb, bb, sb⟩ := hb
  have ra0 := ra
  have rb0 := rb
  refine w_seq (w_reg (w_box rfl rfl (by simp only [V.cells, allOne, ra.one]) fun iA h1 hA hiA hE1 => ?_))
  refine w_box rfl rfl (by simp only [V.cells, allOne, rb.one]) fun iB h2 hB hiB hE2 => ?_
  have E2 := hE1.trans hE2
  replace hA := hA.ext0 hE2
  replace ra := ra.ext0 E2
  replace rb := rb.ext0 E2
  repeat' (first | refine w_seq ?_ | refine w_reg ?_ | refine w_end (by simp only [outsV, nth, setV, List.take_succ_cons, List.take_zero, List.length_cons, List.length_nil, Nat.zero_add, Nat.reduceAdd] <;> rfl) ?_ | refine w_rf rfl (by assumption) (by rfl) (by rfl) (by rfl) ?_ | refine w_len rfl (by assumption) ?_ | refine w_neqN rfl rfl (fun hc => ?_) (fun hc => ?_) | refine w_opk rfl rfl ?_ | refine w_cond_t rfl ?_ | refine w_cond_f rfl ?_ | refine w_skip ?_ | refine w_ret ?_ | refine w_rt rfl ?_)
  · exact absurd (by omega) hc
  refine w_count (fun i vs h => (∃ c8 c9 c10 c11 c12 c13 c14 c15 c16 c17, vs = [.agg [a], .agg [b], .bool false, .ptr iA 0 0 1, .ptr iB 0 0 1, .bool false, .int .i64 (.ofNat i), .int .i64 (.ofNat la.length), c8, c9, c10, c11, c12, c13, c14, c15, c16, c17]) ∧ Ext h2 h) P.length ⟨⟨_, _, _, _, _, _, _, _, _, _, rfl⟩, ExtX.refl _ _⟩ ?_
  rintro i vs h hi ⟨⟨c8, c9, c10, c11, c12, c13, c14, c15, c16, c17, rfl⟩, hE⟩
  have E := E2.trans hE
  replace ra := ra0.ext0 E
  replace rb := rb0.ext0 E
  replace hA := hA.ext0 hE
  replace hB := hB.ext0 hE
  repeat' (first | refine w_seq ?_ | refine w_reg ?_ | refine w_end (by simp only [outsV, nth, setV, List.take_succ_cons, List.take_zero, List.length_cons, List.length_nil, Nat.zero_add, Nat.reduceAdd] <;> rfl) ?_ | refine w_lssN rfl rfl (fun hc => ?_) (fun hc => ?_) | refine w_opk rfl rfl ?_ | refine w_cond_t rfl ?_ | refine w_cond_f rfl ?_ | refine w_skip ?_ | refine w_exit rfl ?_ | refine w_ret ?_ | refine w_rt rfl ?_)
  · refine w_block ?_
    repeat' (first | refine w_seq ?_ | refine w_reg ?_ | refine w_end (by simp only [outsV, nth, setV, List.take_succ_cons, List.take_zero, List.length_cons, List.length_nil, Nat.zero_add, Nat.reduceAdd] <;> rfl) ?_ | refine w_rf rfl (by assumption) (by rfl) (by rfl) (by rfl) ?_ | refine w_opk rfl rfl ?_)
    have hia : i < la.length := hc
    have hiP : i < P.length := by omega
    have hib : i < lb.length := by omega
    obtain ⟨ta, e1, r1, b1⟩ := sa i la[i] P[i] (List.getElem?_eq_getElem hia) (List.getElem?_eq_getElem hiP)
    obtain ⟨tb, e2, r2, b2⟩ := sb i lb[i] P[i] (List.getElem?_eq_getElem hib) (List.getElem?_eq_getElem hiP)
    generalize P[i] = s at *
    have k1 : allOne [.int .i64 s.1, ta] = true := by simp only [allOne, r1.one]; rfl
    have k2 : allOne [.int .i64 s.1, tb] = true := by simp only [allOne, r2.one]; rfl
    refine w_iadrS rfl rfl ra hia ?_
    have hSA := slot_at ra hia
    rw [e1] at hSA
    refine w_loadA rfl hSA rfl ?_
    repeat' (first | refine w_rf rfl (by assumption) (by rfl) (by rfl) (by rfl) ?_ | refine w_opk rfl rfl ?_)
    refine w_iadrS rfl rfl rb hib ?_
    have hSB := slot_at rb hib
    rw [e2] at hSB
    refine w_loadA rfl hSB rfl ?_
    refine w_alloc fun ix h3 hx hix hE3 => ?_
    refine w_alloc fun iy h4 hy hiy hE4 => ?_
    have hixl := hx.1
    replace hx := hx.ext0 hE4
    have hAl := hA.1
    have hBl := hB.1
    refine w_store rfl rfl hx rfl k1 (by decide) (by simp) fun h5 hx5 hE5 hn5 => ?_
    replace hx5 : Own h5 ix [.int .i64 s.1, ta] := hx5
    have hF5 : Ext h h5 := (hE3.trans hE4).step hE5 fun jd hjd => by simp at hjd; exact .inr (by omega)
    have hSB5 := slot_at (rb0.ext0 (E.trans hF5)) hib
    rw [e2] at hSB5
    have hB5 := hB.ext0 hF5
    refine w_chkA rfl rfl hSB5 (by simp) (V.beqL_refl _) ?_
    refine w_chk1 rfl rfl (hB5.at rfl) (V.beq_refl _) ?_
    have hy5 := hy.ext hE5 (by simp; omega)
    refine w_store rfl rfl hy5 rfl k2 (by decide) (by simp) fun h6 hy6 hE6 hn6 => ?_
    replace hy6 : Own h6 iy [.int .i64 s.1, tb] := hy6
    have hx6 := hx5.ext hE6 (by simp; omega)
    have hF6 : Ext h h6 := hF5.step hE6 fun jd hjd => by simp at hjd; exact .inr (by have := hE3.1; omega)
    have E6 := E.trans hF6
    have r16 := r1.ext0 E6
    have r26 := r2.ext0 E6
    have hF26 := hE.trans hF6
    clear hx hy hE5 hE6 hE3 hE4 ra rb hA hB hSA hSB hSB5 hB5 hx5 hy5
    repeat' (first | refine w_seq ?_ | refine w_reg ?_ | refine w_end (by simp only [outsV, nth, setV, List.take_succ_cons, List.take_zero, List.length_cons, List.length_nil, Nat.zero_add, Nat.reduceAdd] <;> rfl) ?_ | refine w_off rfl ?_ | refine w_rf rfl (by assumption) (by rfl) (by rfl) (by rfl) ?_ | refine w_rfg rfl rfl (by assumption) (by rfl) (by rfl) (by rfl) (by rfl) ?_ | refine w_on rfl ?_ | refine w_len rfl (by assumption) ?_ | refine w_neqN rfl rfl (fun hc => ?_) (fun hc => ?_) | refine w_neq rfl rfl (fun hc => ?_) (fun hc => ?_) | refine w_opk rfl rfl ?_ | refine w_cond_t rfl ?_ | refine w_cond_f rfl ?_ | refine w_skip ?_ | refine w_ret ?_ | refine w_rt rfl ?_)
    · exact absurd rfl hc
    · exact absurd (by simp) hc
    · refine w_count (fun k vs h => h6 = h ∧ ∃ c15 c16 c17, vs = [.agg [a], .agg [b], .bool false, .ptr iA 0 0 1, .ptr iB 0 0 1, .bool false, .int .i64 (.ofNat i), .int .i64 (.ofNat la.length), .bool true, .int .i64 (.ofNat i), .ptr ix 0 0 2, .ptr iy 0 0 2, .bool false, .int .i64 (.ofNat k), .int .i64 (.ofNat (s.2.map topC).length), c15, c16, c17]) s.2.length ⟨rfl, _, _, _, rfl⟩ ?_
      rintro k vs h' hk ⟨rfl, c15, c16, c17, rfl⟩
      repeat' (first | refine w_seq ?_ | refine w_reg ?_ | refine w_end (by simp only [outsV, nth, setV, List.take_succ_cons, List.take_zero, List.length_cons, List.length_nil, Nat.zero_add, Nat.reduceAdd] <;> rfl) ?_ | refine w_lssN rfl rfl (fun hc => ?_) (fun hc => ?_) | refine w_addN rfl rfl (by omega) ?_ | refine w_opk rfl rfl ?_ | refine w_cond_t rfl ?_ | refine w_cond_f rfl ?_ | refine w_skip ?_ | refine w_exit rfl ?_)
      · refine w_block ?_
        repeat' (first | refine w_seq ?_ | refine w_reg ?_ | refine w_end (by simp only [outsV, nth, setV, List.take_succ_cons, List.take_zero, List.length_cons, List.length_nil, Nat.zero_add, Nat.reduceAdd] <;> rfl) ?_ | refine w_rf rfl (by assumption) (by rfl) (by rfl) (by rfl) ?_ | refine w_opk rfl rfl ?_)
        have hk1 : k < (s.2.map topC).length := by assumption
        have hk2 : k < s.2.length := by simpa using hk1
        refine w_iadrS rfl rfl r16 hk1 ?_
        have h1 := slot_at r16 hk1
        rw [List.getElem_map] at h1
        refine w_loadA rfl h1 rfl ?_
        repeat' (first | refine w_rf rfl (by assumption) (by rfl) (by rfl) (by rfl) ?_ | refine w_opk rfl rfl ?_)
        refine w_iadrS rfl rfl r26 hk1 ?_
        have h2 := slot_at r26 hk1
        rw [List.getElem_map] at h2
        refine w_loadA rfl h2 rfl ?_
        refine w_op (o_bin_v rfl rfl top_neq) ?_
        repeat' (first | refine w_reg ?_ | refine w_end (by simp only [outsV, nth, setV, List.take_succ_cons, List.take_zero, List.length_cons, List.length_nil, Nat.zero_add, Nat.reduceAdd] <;> rfl) ?_ | refine w_addN rfl rfl (by omega) ?_ | refine w_opk rfl rfl ?_ | refine w_cond_f rfl ?_ | refine w_skip ?_)
        exact ⟨hk2, rfl, _, _, _, rfl⟩
      · exact ⟨hiP, ⟨_, _, _, _, _, _, _, _, _, _, rfl⟩, hF26⟩
  · exact ⟨rfl, E⟩
end AmT
