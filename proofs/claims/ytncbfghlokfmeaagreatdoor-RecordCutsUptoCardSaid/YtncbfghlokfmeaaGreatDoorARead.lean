/-
  actor.Read: a record of bytes, or none. Conditions: the bytes are bytes.
-/
import Derived.Test.YtncbfghlokfmeaaGreatDoorARd
namespace AmT
open Go Am
set_option maxRecDepth 100000
set_option maxHeartbeats 8000000
set_option linter.unusedSimpArgs false
set_option linter.unusedVariables false
variable {O : CallF}

def recZ : List V := [.int .i64 0, .int .i64 0, .int .i64 0, .int .i64 0, .int .i64 0, .str [], .nils, .int .u8 0, .int .i64 0, .int .i64 0, .nils, .int .i64 0, .nils, .int .i64 0]

theorem aread_ok (hO : OffAR O) {h0 : Heap} {b : V} {bs : List Nat} (hB : RdB h0 b bs) (ho : Ow h0 1 b (bs.map byteC)) :
    WPc tab.get O 26 [b] h0 (fun v h' => Ext h0 h' ∧ ∃ c e, v = .tuple [.agg c, .int .i64 e] ∧ c.length = 14 ∧ allOne c = true ∧ ((∀ R, cRec.dec bs ≠ some (R, [])) → e = 2)) := by
  refine w_fn' (hO.rd _ _) rfl rfl (by simp only [c26, initV, nth] <;> rfl) ?_
  have b1 := hB.rs.one
  have hml : (bs.map byteC).length = bs.length := List.length_map ..
  have hbl := hB.len
  refine w_seq (w_reg (w_alloc fun i1 h1 h1o hi1 hE1 => ?_))
  replace h1o : Own h1 i1 recZ := h1o
  have m1 := hE1.1
  repeat' (first | refine w_seq ?_ | refine w_reg ?_ | refine w_e ?_ | refine w_opk rfl rfl ?_)
  refine w_build [b, .int .i64 0, .bool false] rfl (by simp only [fillP, V.cells1 b1, allOne, b1]; rfl) ?_
  refine w_box rfl rfl (by simp only [V.cells, allOne, b1]; rfl) fun r h2 hR hir hE2 => ?_
  replace hR : Own h2 r [b, .int .i64 (.ofNat 0), .bool false] := hR
  have m2 := hE2.1
  have hRl := hR.1
  have h1l := h1o.1
  repeat' (first | refine w_seq ?_ | refine w_reg ?_ | refine w_e ?_ | refine w_opk rfl rfl ?_)
  refine w_alloc fun i7 h3 h7o hi7 hE3 => ?_
  have m3 := hE3.1
  have h7l := h7o.1
  have hR3 := hR.ext0 hE3
  have E3 := (hE1.trans hE2).trans hE3
  have s3 : RaSt h0 h3 r b bs (some bs) := ⟨by omega, E3, 0, Nat.zero_le _, rfl, hR3⟩
  have h13 := (h1o.ext0 hE2).ext0 hE3
  replace h7o : Own h3 i7 (List.replicate 10 (.int .i64 0)) := h7o
  clear hR hR3 h1o hE1 hE2 hE3
  repeat' (first | refine w_seq ?_ | refine w_reg ?_ | refine w_e ?_ | refine w_opk rfl rfl ?_)
  refine w_count (fun j vs h => ∃ b4 b5 ns τ, vs = [b, .ptr i1 0 0 14, .int .i64 (.ofNat 0), .int .i64 (.ofNat j), b4, b5, .ptr r 0 0 3, .ptr i7 0 0 10, .any, .any, .any, .any, .any] ∧ Own h i1 recZ ∧ Own h i7 (ns.map iV ++ List.replicate (10 - j) (.int .i64 0)) ∧ ns.length = j ∧ ExtX [r, i7] h3 h ∧ RaSt h0 h r b bs τ ∧ (τ = none → (cRep cI64 10).dec bs = none) ∧ ∀ l0, τ = some l0 → (cRep cI64 10).dec bs = preL2 ns (dRep cI64.dec (10 - j) l0)) 10 ⟨_, _, [], _, rfl, h13, h7o, rfl, ExtX.refl _ _, s3, (fun e => by cases e), fun l0 e => by cases e; exact (preL2_nil _).symm⟩ ?_
  rintro j vs h hj ⟨b4, b5, ns, τ, rfl, h1c, h7c, hns, X, s, t1, t2⟩
  repeat' (first | refine w_seq ?_ | refine w_reg ?_ | refine w_e ?_ | refine w_lssN rfl rfl (fun hc => ?_) (fun hc => ?_) | refine w_opk rfl rfl ?_ | refine w_cond_t rfl ?_ | refine w_cond_f rfl ?_ | refine w_skip ?_ | refine w_exit rfl ?_)
  · have hj10 : j < 10 := by assumption
    refine w_block ?_
    repeat' (first | refine w_seq ?_ | refine w_reg ?_ | refine w_e ?_ | refine w_opk rfl rfl ?_)
    refine w_call rfl ((anum_ok hO hB s).mono fun _ h4 ⟨⟨x, e, hx⟩, s4, x4⟩ => ?_)
    subst e
    have h7d := h7c.ext x4 (by simp; omega)
    have h1d := h1c.ext x4 (by simp; omega)
    have hlen7 : (ns.map iV ++ List.replicate (10 - j) (V.int .i64 0)).length = 10 := by simp; omega
    refine w_iadrA rfl rfl hj10 ?_
    refine w_store rfl rfl h7d rfl rfl (by omega) (by rw [hlen7]; omega) fun h5 q1 q2 q3 => ?_
    obtain ⟨m, hm⟩ : ∃ m, 10 - j = m + 1 := ⟨9 - j, by omega⟩
    have hm2 : 10 - (j + 1) = m := by omega
    rw [hm] at q1 t2
    replace q1 : Own h5 i7 ((ns ++ [x]).map iV ++ List.replicate m (.int .i64 0)) := by
      rw [← splice_next (z := .int .i64 0), hns]
      exact q1
    have m4 := x4.1
    have s5 := s4.ext q2 (by simp; omega) fun j hj => by simp at hj; omega
    have X5 : ExtX [r, i7] h3 h5 := (X.trans (x4.mono (by simp))).step q2 fun j hj => by simp at hj; exact .inl (by simp [hj])
    repeat' (first | refine w_reg ?_ | refine w_e ?_ | refine w_addN rfl rfl (by omega) ?_ | refine w_opk rfl rfl ?_)
    refine ⟨hj10, _, _, ns ++ [x], _, rfl, h1d.ext q2 (by simp; omega), by rw [hm2]; exact q1, by simp; omega, X5, s5, fun e => ?_, fun l0 e => ?_⟩
    · cases τ with
      | none => exact t1 rfl
      | some l => exact (dRep_up (t2 l rfl) (fun y l' e => hx y l' e)).1 e
    · cases τ with
      | none => cases e
      | some l => rw [hm2]; exact (dRep_up (t2 l rfl) (fun y l' e => hx y l' e)).2 l0 e
  · have hj10 : j = 10 := by
      have : 10 ≤ j := by assumption
      omega
    subst hj10
    have hnum : ∀ x l, (cRep cI64 10).dec bs = some (x, l) → ns = x := fun x l e => by
      cases τ with
      | none => rw [t1 rfl] at e; cases e
      | some l0 =>
        rw [t2 l0 rfl] at e
        simp only [Nat.sub_self, dRep, preL2, List.append_nil, Option.some.injEq, Prod.mk.injEq] at e
        exact e.1
    have hrst : rst ((cRep cI64 10).dec bs) = τ := by
      cases τ with
      | none => rw [t1 rfl]; rfl
      | some l0 =>
        rw [t2 l0 rfl]
        rfl
    obtain ⟨n0, n1, n2, n3, n4, n5, n6, n7, n8, n9, rfl⟩ := list10 hns
    replace h7c : Own h i7 [.int .i64 n0, .int .i64 n1, .int .i64 n2, .int .i64 n3, .int .i64 n4, .int .i64 n5, .int .i64 n6, .int .i64 n7, .int .i64 n8, .int .i64 n9] := h7c
    have hst := rst_rec bs
    rw [hrst] at hst
    clear t1 t2 hns hrst
    repeat' (first | refine w_iadrA rfl rfl (by decide) ?_ | refine w_fl rfl (by assumption) (by rfl) (by rfl) (by rfl) ?_ | refine w_opk rfl rfl ?_)
    refine w_build [.int .i64 n0, .int .i64 0, .int .i64 0, .int .i64 0, .int .i64 0, .str [], .nils, .int .u8 (IntKind.u8.wrap n5), .int .i64 n6, .int .i64 n7, .nils, .int .i64 n8, .nils, .int .i64 n9] rfl rfl ?_
    refine w_alloc fun i8 h4 h8o hi8 hE4 => ?_
    refine w_store rfl rfl h8o rfl rfl (by decide) (by simp) fun h5 q1 q2 q3 => ?_
    replace q1 : Own h5 i8 [.int .i64 n0, .int .i64 0, .int .i64 0, .int .i64 0, .int .i64 0, .str [], .nils, .int .u8 (IntKind.u8.wrap n5), .int .i64 n6, .int .i64 n7, .nils, .int .i64 n8, .nils, .int .i64 n9] := q1
    have hrl := s.base.2.2
    have h7l2 := h7c.1
    have h1l2 := h1c.1
    have mX := X.1
    have hE5 : Ext h h5 := hE4.step q2 fun j hj => by simp at hj; exact .inr (by omega)
    have h75 := h7c.ext0 hE5
    have h15 := h1c.ext0 hE5
    have s5 := s.ext0 hE5
    have X5 := X.trans (hE5.mono (S' := [r, i7]) (by simp))
    have hi8l := q1.1
    clear h7c h1c s X hE4 q2 h8o hE5
    repeat' (first | refine w_seq ?_ | refine w_reg ?_ | refine w_e ?_ | refine w_fl rfl (by assumption) (by rfl) (by rfl) (by rfl) ?_ | refine w_opk rfl rfl ?_)
    skip
    refine w_call rfl ((atag_ok hO hB ho s5).mono fun _ h6 ⟨⟨t, e⟩, s6, x6⟩ => ?_)
    subst e
    have h76 := h75.ext x6 (by simp; omega)
    have h16 := h15.ext x6 (by simp; omega)
    have h86 := q1.ext x6 (by simp; omega)
    have m6 := x6.1
    iterate 4 refine w_chk1 rfl rfl ((h76.at rfl).fadr (by simp)) (V.beq_refl _) ?_
    refine w_call rfl ((avals_ok hO hB ho s6).mono fun w5 h7 ⟨o5, s7, x7⟩ => ?_)
    have h77 := h76.ext x7 (by simp; omega)
    have h17 := h16.ext x7 (by simp; omega)
    have h87 := h86.ext x7 (by simp; omega)
    have m7 := x7.1
    have c5 := V.cells1 o5
    iterate 4 refine w_chk1 rfl rfl ((h77.at rfl).fadr (by simp)) (V.beq_refl _) ?_
    refine w_build [.int .i64 n1, .int .i64 n2, .int .i64 n3, .int .i64 n4, .str t, w5] rfl (by simp only [fillP, c5, allOne, o5]; rfl) ?_
    repeat' (first | refine w_opk rfl rfl ?_)
    refine w_store rfl rfl h87 rfl (by simp only [V.cells, allOne, o5]; rfl) (by decide) (by simp) fun h8 u1 u2 u3 => ?_
    replace u1 : Own h8 i8 [.int .i64 n0, .int .i64 n1, .int .i64 n2, .int .i64 n3, .int .i64 n4, .str t, w5, .int .u8 (IntKind.u8.wrap n5), .int .i64 n6, .int .i64 n7, .nils, .int .i64 n8, .nils, .int .i64 n9] := u1
    have s8 := s7.ext u2 (by simp; omega) fun j hj => by simp at hj; omega
    have h78 := h77.ext u2 (by simp; omega)
    have h18 := h17.ext u2 (by simp; omega)
    have X8 : ExtX [r, i7] h3 h8 := ((X5.trans (x6.mono (by simp))).trans (x7.mono (by simp))).step u2 fun j hj => by simp at hj; exact .inr (by omega)
    clear x6 x7 h76 h77 h86 h87 h16 h17 u2 s5 s6 s7 q1 h75 h15 X5
    repeat' (first | refine w_seq ?_ | refine w_reg ?_ | refine w_e ?_ | refine w_opk rfl rfl ?_)
    refine w_call rfl ((avals_ok hO hB ho s8).mono fun w12 h9 ⟨o12, s9, x9⟩ => ?_)
    have h79 := h78.ext x9 (by simp; omega)
    have h19 := h18.ext x9 (by simp; omega)
    have h89 := u1.ext x9 (by simp; omega)
    have m9 := x9.1
    have c12 := V.cells1 o12
    repeat' (first | refine w_opk rfl rfl ?_)
    refine w_store rfl rfl h89 (by rw [c12]; try rfl) (by rw [c12]; simp only [allOne, o12]; try rfl) (by decide) (by simp) fun h10 u1 u2 u3 => ?_
    rw [c12] at u1
    replace u1 : Own h10 i8 [.int .i64 n0, .int .i64 n1, .int .i64 n2, .int .i64 n3, .int .i64 n4, .str t, w5, .int .u8 (IntKind.u8.wrap n5), .int .i64 n6, .int .i64 n7, .nils, .int .i64 n8, w12, .int .i64 n9] := u1
    have s10 := s9.ext u2 (by simp; omega) fun j hj => by simp at hj; omega
    have h7a := h79.ext u2 (by simp; omega)
    have h1a := h19.ext u2 (by simp; omega)
    have X10 : ExtX [r, i7] h3 h10 := (X8.trans (x9.mono (by simp))).step u2 fun j hj => by simp at hj; exact .inr (by omega)
    clear x9 h79 h19 h89 u2 s9 s8 h78 h18 X8
    repeat' (first | refine w_seq ?_ | refine w_reg ?_ | refine w_e ?_ | refine w_opk rfl rfl ?_)
    refine w_callA [.ptr r 0 0 3, .int .u64 (.ofNat 1000)] rfl ((acount_ok hO hB s10 (most := 1000) (by decide) (by decide)).mono fun _ h11 ⟨k0, e, lk0, p1, p0, s11, x11⟩ => ?_)
    subst e
    have m11 := x11.1
    have h7b := h7a.ext x11 (by simp; omega)
    have h1b := h1a.ext x11 (by simp; omega)
    have h8b := u1.ext x11 (by simp; omega)
    have X11 := X10.trans (x11.mono (S' := [r, i7]) (by simp))
    have hT := cList_aft cEff (by decide) p1
    generalize hTT : aft (cList cEff 1000 (by decide)).dec (rst (aft cVals.dec (rst (aft cVals.dec (rst (aft cTag.dec τ)))))) = total at *
    clear x11 s10 h7a h1a u1 X10
    repeat' (first | refine w_e ?_ | refine w_opk rfl rfl ?_)
    refine w_block_cut (fun vs h => ∃ b3 b4 b5 b9 b10 b11 b12 ev, vs = [b, .ptr i1 0 0 14, .int .i64 (.ofNat 0), b3, b4, b5, .ptr r 0 0 3, .ptr i7 0 0 10, .ptr i8 0 0 14, b9, b10, b11, b12] ∧ Own h i1 recZ ∧ Own h i7 [.int .i64 n0, .int .i64 n1, .int .i64 n2, .int .i64 n3, .int .i64 n4, .int .i64 n5, .int .i64 n6, .int .i64 n7, .int .i64 n8, .int .i64 n9] ∧ Own h i8 [.int .i64 n0, .int .i64 n1, .int .i64 n2, .int .i64 n3, .int .i64 n4, .str t, w5, .int .u8 (IntKind.u8.wrap n5), .int .i64 n6, .int .i64 n7, ev, .int .i64 n8, w12, .int .i64 n9] ∧ ev.one = true ∧ RaSt h0 h r b bs (rst total) ∧ ExtX [r, i7, i8] h3 h)
      (w_loop (fun m vs h => ∃ b3 b4 b5 b10 b11 b12 ev lc τ, vs = [b, .ptr i1 0 0 14, .int .i64 (.ofNat 0), b3, b4, b5, .ptr r 0 0 3, .ptr i7 0 0 10, .ptr i8 0 0 14, .int .i64 (.ofNat m), b10, b11, b12] ∧ Own h i1 recZ ∧ Own h i7 [.int .i64 n0, .int .i64 n1, .int .i64 n2, .int .i64 n3, .int .i64 n4, .int .i64 n5, .int .i64 n6, .int .i64 n7, .int .i64 n8, .int .i64 n9] ∧ Own h i8 [.int .i64 n0, .int .i64 n1, .int .i64 n2, .int .i64 n3, .int .i64 n4, .str t, w5, .int .u8 (IntKind.u8.wrap n5), .int .i64 n6, .int .i64 n7, ev, .int .i64 n8, w12, .int .i64 n9] ∧ Ow h 4 ev lc ∧ lc.length + m ≤ 1000 ∧ (∀ j ∈ slIds ev, h11.n ≤ j) ∧ RaSt h0 h r b bs τ ∧ ExtX [r, i7, i8] h3 h ∧ h11.n ≤ h.n ∧ (τ = none → rst total = none) ∧ ∀ l0, τ = some l0 → rst total = rst (dRep cEff.dec m l0)) ?_ k0 _ _
        ⟨_, _, _, _, _, _, .nils, [], _, rfl, h1b, h7b, h8b, Ow.nils _ _, by simpa using lk0, by simp [slIds], s11, X11.mono (by simp), Nat.le_refl _, ?_, ?_⟩) ?_
    · have s11' := s11.base.2.2
      have h1b' := h1b.1
      have h7b' := h7b.1
      have h8b' := h8b.1
      have h3b' := X11.1
      clear h1b h7b h8b s11 X11
      rintro m vs h ⟨b3, b4, b5', b10, b11, b12, ev, lc, τ', rfl, h1c, h7c, h8c, hO', hlc, hids, s, X, hn, t1, t2⟩
      have goon : m = 0 ∨ τ' = none → RaSt h0 h r b bs (rst total) := by
        intro hc
        cases τ' with
        | none => rw [t1 rfl]; exact s
        | some l =>
          have hm0 : m = 0 := by rcases hc with hc | hc; exact hc; cases hc
          subst hm0
          rw [t2 l rfl]
          exact s
      cases τ' with
      | none =>
        have s' := s
        obtain ⟨_, _, a, ha, hR⟩ := s'
        repeat' (first | refine w_seq ?_ | refine w_reg ?_ | refine w_e ?_ | refine w_off rfl ?_ | refine w_rfg rfl rfl (by assumption) (by rfl) (by rfl) (by rfl) (by rfl) ?_ | refine w_on rfl ?_ | refine w_gtrN rfl rfl (fun hc => ?_) (fun hc => ?_) | refine w_opk rfl rfl ?_ | refine w_cond_f rfl ?_ | refine w_exit rfl ?_)
        all_goals exact ⟨_, _, _, _, _, _, _, ev, rfl, h1c, h7c, h8c, hO'.rs.one, goon (.inr rfl), X⟩
      | some l =>
        have hT2 := t2 l rfl
        have s' := s
        obtain ⟨hbr, hE, a, ha, hl, hR⟩ := s'
        repeat' (first | refine w_seq ?_ | refine w_reg ?_ | refine w_e ?_ | refine w_off rfl ?_ | refine w_rfg rfl rfl (by assumption) (by rfl) (by rfl) (by rfl) (by rfl) ?_ | refine w_on rfl ?_ | refine w_gtrN rfl rfl (fun hc => ?_) (fun hc => ?_) | refine w_opk rfl rfl ?_ | refine w_cond_t rfl ?_ | refine w_cond_f rfl ?_ | refine w_skip ?_ | refine w_exit rfl ?_)
        · have hm0 : 0 < m := by assumption
          obtain ⟨m, rfl⟩ : ∃ j, m = j + 1 := ⟨m - 1, by omega⟩
          clear goon
          have h1l := h1c.1
          have h7l := h7c.1
          have h8l := h8c.1
          have hrl := hR.1
          have hRep := rst_rep (d := cEff.dec) (m := m) (l := l)
          have hEf : rst (cEff.dec l) = rst (aft cVals.dec (rst (aft cTag.dec (rst (aft cI64.dec (rst (aft cI64.dec (some l)))))))) := by
            show rst (aft cEff.dec (some l)) = _
            unfold cEff
            rw [rst_seq, rst_seq, rst_seq]
          refine w_block ?_
          repeat' (first | refine w_seq ?_ | refine w_reg ?_ | refine w_opk rfl rfl ?_)
          refine w_call rfl ((anum_ok hO hB s).mono fun _ h12 ⟨⟨x0, e, _⟩, s12, x12⟩ => ?_)
          subst e
          have m12 := x12.1
          refine w_build [.int .i64 x0, .int .i64 0, .str [], .nils] rfl rfl ?_
          refine w_alloc fun i11 h13 hXo hi11 hE13 => ?_
          refine w_store rfl rfl hXo rfl rfl (by decide) (by simp) fun h14 u1 u2 u3 => ?_
          replace u1 : Own h14 i11 [.int .i64 x0, .int .i64 0, .str [], .nils] := u1
          have E14 : Ext h12 h14 := hE13.step u2 fun j hj => by simp at hj; exact .inr (by omega)
          have m13 := E14.1
          have hl11 := u1.1
          have X14 : ExtX [r] h h14 := x12.trans (E14.mono (by simp))
          have s14 := s12.ext0 E14
          clear hXo hE13 u2 s12 x12 s
          repeat' (first | refine w_seq ?_ | refine w_reg ?_ | refine w_e ?_ | refine w_opk rfl rfl ?_)
          refine w_call rfl ((anum_ok hO hB s14).mono fun _ h15 ⟨⟨x1, e, _⟩, s15, x15⟩ => ?_)
          subst e
          have m15 := x15.1
          have hX15 := u1.ext x15 (by simp; omega)
          repeat' (first | refine w_opk rfl rfl ?_)
          refine w_store rfl rfl hX15 rfl rfl (by decide) (by simp) fun h16 u1 u2 u3 => ?_
          replace u1 : Own h16 i11 [.int .i64 x0, .int .i64 x1, .str [], .nils] := u1
          have X16 : ExtX [r] h h16 := (X14.trans x15).step u2 fun j hj => by simp at hj; exact .inr (by omega)
          have s16 := s15.ext u2 (by simp; omega) fun j hj => by simp at hj; omega
          clear u2 s15 x15 s14 X14 hX15
          repeat' (first | refine w_seq ?_ | refine w_reg ?_ | refine w_e ?_ | refine w_opk rfl rfl ?_)
          refine w_call rfl ((atag_ok hO hB ho s16).mono fun _ h17 ⟨⟨x2, e⟩, s17, x17⟩ => ?_)
          subst e
          have m17 := x17.1
          have hX17 := u1.ext x17 (by simp; omega)
          repeat' (first | refine w_opk rfl rfl ?_)
          refine w_store rfl rfl hX17 rfl rfl (by decide) (by simp) fun h18 u1 u2 u3 => ?_
          replace u1 : Own h18 i11 [.int .i64 x0, .int .i64 x1, .str x2, .nils] := u1
          have X18 : ExtX [r] h h18 := (X16.trans x17).step u2 fun j hj => by simp at hj; exact .inr (by omega)
          have s18 := s17.ext u2 (by simp; omega) fun j hj => by simp at hj; omega
          clear u2 s17 x17 s16 X16 hX17
          repeat' (first | refine w_seq ?_ | refine w_reg ?_ | refine w_e ?_ | refine w_opk rfl rfl ?_)
          refine w_call rfl ((avals_ok hO hB ho s18).mono fun x3 h19 ⟨o3, s19, x19⟩ => ?_)
          have m19 := x19.1
          have hX19 := u1.ext x19 (by simp; omega)
          have c3 := V.cells1 o3
          repeat' (first | refine w_opk rfl rfl ?_)
          refine w_store rfl rfl hX19 (by rw [c3]; try rfl) (by rw [c3]; simp only [allOne, o3]; try rfl) (by decide) (by simp) fun h20 u1 u2 u3 => ?_
          rw [c3] at u1
          replace u1 : Own h20 i11 [.int .i64 x0, .int .i64 x1, .str x2, x3] := u1
          have X20 : ExtX [r] h h20 := (X18.trans x19).step u2 fun j hj => by simp at hj; exact .inr (by omega)
          have s20 := s19.ext u2 (by simp; omega) fun j hj => by simp at hj; omega
          clear u2 s19 x19 s18 X18 hX19
          have o20 : allOne [V.int .i64 x0, .int .i64 x1, .str x2, x3] = true := by simp only [allOne, o3]; rfl
          have h1d := h1c.ext X20 (by simp; omega)
          have h7d := h7c.ext X20 (by simp; omega)
          have h8d := h8c.ext X20 (by simp; omega)
          have hO20 := hO'.ext X20 fun j hj e => by simp at e; have := hids j hj; have := s11'; omega
          have m20 := X20.1
          repeat' (first | refine w_reg ?_ | refine w_e ?_ | refine w_rf rfl (by assumption) (by rfl) (by rfl) (by rfl) ?_)
          refine w_loadA rfl (u1.at rfl) rfl ?_
          refine w_push rfl rfl rfl o20 (fun _ => rfl) hO20 (by omega) fun aa ev' h21 hv' hf' => ?_
          have h1e := h1d.ext hf'.1 fun e => by have := hids i1 e; omega
          have h7e := h7d.ext hf'.1 fun e => by have := hids i7 e; omega
          have h8e := h8d.ext hf'.1 fun e => by have := hids i8 e; omega
          have s21 := s20.ext hf'.1 (fun e => by have := hids r e; have := s11'; omega) fun j hj => by have := hids j hj; omega
          have m21 := hf'.1.1
          repeat' (first | refine w_opk rfl rfl ?_)
          refine w_store rfl rfl h8e (by rw [V.cells1 hv'.rs.one]; try rfl) (by rw [V.cells1 hv'.rs.one]; simp only [allOne, hv'.rs.one]; try rfl) (by decide) (by simp) fun h22 v1 v2 v3 => ?_
          rw [V.cells1 hv'.rs.one] at v1
          have hnew : ∀ j ∈ slIds ev', h11.n ≤ j := fun j hj => by
            rcases hf'.2 j hj with e | e
            · exact hids j e
            · omega
          repeat' (first | refine w_reg ?_ | refine w_e ?_ | refine w_opq rfl rfl ?_)
          refine w_subN (b := 1) rfl (by rfl) (by omega) (by omega) ?_
          repeat' (first | refine w_e ?_ | refine w_opq rfl rfl ?_)
          refine ⟨m, by omega, _, _, _, _, _, _, ev', lc ++ [[V.int .i64 x0, .int .i64 x1, .str x2, x3]], _, rfl, h1e.ext v2 (by simp; omega), h7e.ext v2 (by simp; omega), v1, hv'.ext v2 (fun j hj e => by simp at e; have := hnew j hj; omega), by simp; omega, hnew, s21.ext v2 (by simp; omega) (fun j hj => by simp at hj; omega), ?_, by omega, fun e => ?_, fun l0 e => ?_⟩
          · exact ((X.trans (X20.mono (by simp))).step hf'.1 fun j hj => .inr (by have := hids j hj; omega)).step v2 fun j hj => by simp at hj; exact .inl (by simp [hj])
          · rw [hT2, hRep, hEf, e]
          · rw [hT2, hRep, hEf, e]
        · have hm0 : m = 0 := by
            have : m ≤ 0 := by assumption
            omega
          exact ⟨_, _, _, _, _, _, _, ev, rfl, h1c, h7c, h8c, hO'.rs.one, goon (.inl hm0), X⟩
    · intro e
      rw [hT]
      cases hq : aft (cNum 1000 (by decide)).dec _ with
      | none => rfl
      | some y => rw [hq] at e; cases e
    · intro l0 e
      rw [hT]
      cases hq : aft (cNum 1000 (by decide)).dec _ with
      | none => rw [hq] at e; cases e
      | some y =>
        obtain ⟨x, l1⟩ := y
        rw [hq] at e
        cases e
        rfl
    · clear h1b h7b h8b s11 X11
      rintro vs h ⟨b3, b4, b5', b9, b10, b11, b12, ev, rfl, h1c, h7c, h8c, oev, s, X⟩
      have hEX : Ext h0 h := E3.step X fun j hj => by simp at hj; exact .inr (by omega)
      have hrb := hB.rs.ext0 s.base.2.1
      have e5 : [n0, n1, n2, n3, n4, n5, n6, n7, n8, n9].getD 5 0 = n5 := rfl
      cases hσ : rst total with
      | none =>
        rw [hσ] at s
        obtain ⟨_, _, a, ha, hR⟩ := s
        repeat' (first | refine w_seq ?_ | refine w_reg ?_ | refine w_e ?_ | refine w_off rfl ?_ | refine w_rf rfl (by assumption) (by rfl) (by rfl) (by rfl) ?_ | refine w_opk rfl rfl ?_ | refine w_cond_t rfl ?_)
        · refine w_build recZ rfl rfl ?_
          skip
          refine w_store rfl rfl h1c rfl rfl (by decide) (by decide) fun h20 v1 v2 v3 => ?_
          replace v1 : Own h20 i1 recZ := v1
          have E20 := hEX.step v2 fun j hj => by simp at hj; exact .inr (by omega)
          repeat' (first | refine w_e ?_ | refine w_opk rfl rfl ?_ | refine w_ret ?_)
          exact w_rtc rfl v1 rfl rfl ⟨E20, _, _, rfl, rfl, rfl, fun _ => rfl⟩
      | some l =>
        rw [hσ] at s
        obtain ⟨_, _, a, ha, hl, hR⟩ := s
        repeat' (first | refine w_seq ?_ | refine w_reg ?_ | refine w_e ?_ | refine w_off rfl ?_ | refine w_rf rfl (by assumption) (by rfl) (by rfl) (by rfl) ?_ | refine w_rfg rfl rfl (by assumption) (by rfl) (by rfl) (by rfl) (by rfl) ?_ | refine w_fl rfl (by assumption) (by rfl) (by rfl) (by rfl) ?_ | refine w_on rfl ?_ | refine w_len rfl (by assumption) ?_ | refine w_neqN rfl rfl (fun hc => ?_) (fun hc => ?_) | refine w_lss rfl rfl (fun hc => ?_) (fun hc => ?_) | refine w_gtr rfl rfl (fun hc => ?_) (fun hc => ?_) | refine w_opk rfl rfl ?_ | refine w_cond_t rfl ?_ | refine w_cond_f rfl ?_ | refine w_skip ?_)
        · refine w_build recZ rfl rfl ?_
          skip
          refine w_store rfl rfl h1c rfl rfl (by decide) (by decide) fun h20 v1 v2 v3 => ?_
          replace v1 : Own h20 i1 recZ := v1
          have E20 := hEX.step v2 fun j hj => by simp at hj; exact .inr (by omega)
          repeat' (first | refine w_e ?_ | refine w_opk rfl rfl ?_ | refine w_ret ?_)
          exact w_rtc rfl v1 rfl rfl ⟨E20, _, _, rfl, rfl, rfl, fun _ => rfl⟩
        · refine w_build recZ rfl rfl ?_
          skip
          refine w_store rfl rfl h1c rfl rfl (by decide) (by decide) fun h20 v1 v2 v3 => ?_
          replace v1 : Own h20 i1 recZ := v1
          have E20 := hEX.step v2 fun j hj => by simp at hj; exact .inr (by omega)
          repeat' (first | refine w_e ?_ | refine w_opk rfl rfl ?_ | refine w_ret ?_)
          exact w_rtc rfl v1 rfl rfl ⟨E20, _, _, rfl, rfl, rfl, fun _ => rfl⟩
        · refine w_build recZ rfl rfl ?_
          skip
          refine w_store rfl rfl h1c rfl rfl (by decide) (by decide) fun h20 v1 v2 v3 => ?_
          replace v1 : Own h20 i1 recZ := v1
          have E20 := hEX.step v2 fun j hj => by simp at hj; exact .inr (by omega)
          repeat' (first | refine w_e ?_ | refine w_opk rfl rfl ?_ | refine w_ret ?_)
          exact w_rtc rfl v1 rfl rfl ⟨E20, _, _, rfl, rfl, rfl, fun _ => rfl⟩
        · have hc1 : a = (bs.map byteC).length := by assumption
          have hc2 : (0 : Int) ≤ n5 := by assumption
          have hc3 : n5 ≤ (4 : Int) := by assumption
          refine w_loadA rfl (h8c.at rfl) rfl ?_
          refine w_store rfl rfl h1c rfl (by simp only [V.cells, List.take, allOne, o5, o12, oev]; rfl) (by decide) (by decide) fun h20 v1 v2 v3 => ?_
          replace v1 : Own h20 i1 [.int .i64 n0, .int .i64 n1, .int .i64 n2, .int .i64 n3, .int .i64 n4, .str t, w5, .int .u8 (IntKind.u8.wrap n5), .int .i64 n6, .int .i64 n7, ev, .int .i64 n8, w12, .int .i64 n9] := v1
          have E20 := hEX.step v2 fun j hj => by simp at hj; exact .inr (by omega)
          repeat' (first | refine w_e ?_ | refine w_opk rfl rfl ?_ | refine w_ret ?_)
          refine w_rtc rfl v1 rfl rfl ⟨E20, _, _, rfl, rfl, by simp only [allOne, o5, o12, oev]; rfl, fun hne => ?_⟩
          obtain ⟨R, hR'⟩ := rec_dec hnum (by rw [hst, hσ, hl, List.drop_of_length_le (by omega)]) ⟨hc2, hc3⟩
          exact absurd hR' (hne R)
end AmT
