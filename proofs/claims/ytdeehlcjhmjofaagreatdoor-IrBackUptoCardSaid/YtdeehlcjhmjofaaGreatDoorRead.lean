/-
  ir.Read: code of bytes, or none. Conditions: the bytes are bytes.
-/
import Derived.Test.YtdeehlcjhmjofaaGreatDoorRead3
namespace AmT
open Go Am
set_option maxRecDepth 100000
set_option maxHeartbeats 4000000
set_option linter.unusedSimpArgs false
set_option linter.unusedVariables false
variable {O : CallF}

def fastZ : List V := [.int .i64 0, .int .i64 0, .nils, .nils, .nils]
/-- What ir.Read tells. -/
def GotF (n : Nat) (h' : Heap) (bs : List Nat) (c : List V) (e : Int) : Prop :=
  (∀ x, cFast.dec bs = some (x, []) → e = 0 ∧ FastR (fun i => n ≤ i) h' c x) ∧ ((∀ x, cFast.dec bs ≠ some (x, [])) → e = 130 ∧ c = fastZ)

theorem read_ok (hO : OffRd O) {h0 : Heap} {b : V} {bs : List Nat} (hB : RdB h0 b bs) :
    WPc tab.get O 27 [b] h0 (fun v h' => Ext h0 h' ∧ ∃ c e, v = .tuple [.agg c, .int .i64 e] ∧ GotF h0.n h' bs c e) := by
  refine w_fn' (hO.rd _ _) rfl rfl (by simp only [c27, initV, nth] <;> rfl) ?_
  have b1 := hB.rs.one
  refine w_seq (w_reg (w_alloc fun iv h1 hV hiV hE1 => ?_))
  replace hV : Own h1 iv fastZ := hV
  have hVl := hV.1
  have m1 := hE1.1
  repeat' (first | refine w_seq ?_ | refine w_reg ?_ | refine w_end (by simp only [outsV, nth, setV, List.take_succ_cons, List.take_zero, List.length_cons, List.length_nil, Nat.zero_add, Nat.reduceAdd] <;> rfl) ?_ | refine w_opk rfl rfl ?_)
  refine w_build [b, .int .i64 0, .bool false] rfl (by simp only [fillP, V.cells1 b1, allOne, b1]; rfl) ?_
  refine w_box rfl rfl (by simp only [V.cells, allOne, b1]; rfl) fun r h2 hR hiR hE2 => ?_
  replace hR : Own h2 r [b, .int .i64 0, .bool false] := hR
  have hRl := hR.1
  have m2 := hE2.1
  refine w_alloc fun rb h3 hP hiP hE3 => ?_
  have hPl := hP.1
  have m3 := hE3.1
  refine w_store rfl rfl hP rfl rfl (by decide) (by simp) fun h4 hP2 y4 z4 => ?_
  clear hP
  have hP : Own h4 rb [.ptr r 0 0 3] := hP2
  clear hP2
  have m4 := y4.1
  repeat' (first | refine w_seq ?_ | refine w_reg ?_ | refine w_end (by simp only [outsV, nth, setV, List.take_succ_cons, List.take_zero, List.length_cons, List.length_nil, Nat.zero_add, Nat.reduceAdd] <;> rfl) ?_)
  refine w_alloc fun f h5 hF hiF hE5 => ?_
  replace hF : Own h5 f fastZ := hF
  have hFl := hF.1
  have m5 := hE5.1
  have E5 : Ext h0 h5 := ((hE1.trans hE2).trans hE3).step (y4.trans (hE5.mono (by simp))) fun j hj => by simp at hj; exact .inr (by omega)
  replace hP := hP.ext0 hE5
  replace hR := ((hR.ext0 hE3).ext y4 (by simp; omega)).ext0 hE5
  have s0 : RdSt h0 h5 r b bs (some bs) := ⟨by omega, E5, 0, Nat.zero_le _, rfl, hR⟩
  replace hV := (((hV.ext0 hE2).ext0 hE3).ext y4 (by simp; omega)).ext0 hE5
  clear hR hE1 hE2 hE3 y4 hE5
  repeat' (first | refine w_seq ?_ | refine w_reg ?_ | refine w_end (by simp only [outsV, nth, setV, List.take_succ_cons, List.take_zero, List.length_cons, List.length_nil, Nat.zero_add, Nat.reduceAdd] <;> rfl) ?_ | refine w_fl rfl (by assumption) (by rfl) (by rfl) (by rfl) ?_)
  refine w_call rfl ((number_ok hO hB s0).mono fun _ h6 ⟨m, e, p1, p2, p3⟩ => ?_)
  subst e
  have m6 := p3.1
  replace hF := hF.ext p3 (by simp; omega)
  replace hP := hP.ext p3 (by simp; omega)
  replace hV := hV.ext p3 (by simp; omega)
  have E6 := E5.step p3 fun j hj => by simp at hj; exact .inr (by omega)
  repeat' (first | refine w_opk rfl rfl ?_)
  refine w_store rfl rfl hF rfl rfl (by decide) (by simp [fastZ]) fun h7 hF2 y1 z1 => ?_
  clear hF
  have hF : Own h7 f [.int .i64 (.ofNat m), .int .i64 0, .nils, .nils, .nils] := hF2
  clear hF2
  have m7 := y1.1
  replace hP := hP.ext y1 (by simp; omega)
  replace hV := hV.ext y1 (by simp; omega)
  have E7 := E6.step y1 fun j hj => by simp at hj; exact .inr (by omega)
  replace p2 := p2.ext y1 (by simp; omega) (fun j hj => by simp at hj; omega)
  repeat' (first | refine w_seq ?_ | refine w_reg ?_ | refine w_end (by simp only [outsV, nth, setV, List.take_succ_cons, List.take_zero, List.length_cons, List.length_nil, Nat.zero_add, Nat.reduceAdd] <;> rfl) ?_ | refine w_fl rfl (by assumption) (by rfl) (by rfl) (by rfl) ?_)
  refine w_call rfl ((number_ok hO hB p2).mono fun _ h8 ⟨n, e, s1, s2, s3⟩ => ?_)
  subst e
  have m8 := s3.1
  replace hF := hF.ext s3 (by simp; omega)
  replace hP := hP.ext s3 (by simp; omega)
  replace hV := hV.ext s3 (by simp; omega)
  have E8 := E7.step s3 fun j hj => by simp at hj; exact .inr (by omega)
  repeat' (first | refine w_opk rfl rfl ?_)
  refine w_store rfl rfl hF rfl rfl (by decide) (by simp) fun h9 hF2 y2 z2 => ?_
  clear hF
  have hF : Own h9 f [.int .i64 (.ofNat m), .int .i64 (.ofNat n), .nils, .nils, .nils] := hF2
  clear hF2
  have m9 := y2.1
  replace hP := hP.ext y2 (by simp; omega)
  replace hV := hV.ext y2 (by simp; omega)
  have E9 := E8.step y2 fun j hj => by simp at hj; exact .inr (by omega)
  replace s2 := s2.ext y2 (by simp; omega) (fun j hj => by simp at hj; omega)
  repeat' (first | refine w_seq ?_ | refine w_reg ?_ | refine w_end (by simp only [outsV, nth, setV, List.take_succ_cons, List.take_zero, List.length_cons, List.length_nil, Nat.zero_add, Nat.reduceAdd] <;> rfl) ?_ | refine w_fl rfl (by assumption) (by rfl) (by rfl) (by rfl) ?_ | refine w_opk rfl rfl ?_)
  refine w_callA [.ptr r 0 0 3, .int .u64 (.ofNat 4000), .fn 59 [] [.ptr f 0 0 5, .ptr rb 0 0 1]] rfl ((each_ok hO cSpec hB s2 (most := 4000) (by decide) (by decide) (fun h ax => J1 h9 r f rb (.int .i64 (.ofNat m)) (.int .i64 (.ofNat n)) .nils .nils h ax) ⟨.nils, hF, hP, Ow.nils _ _, by simp, by simp [slIds], ExtX.refl _ _⟩ (fun h h' ax _ k hE => k.step (by omega) (by omega) (by omega) hE) fun h ax τ k1 k2 k3 => read1_ok hO hB (by omega) (by omega) (by omega) (by omega) (by omega) (by omega) (by omega) (by omega) k1 k2 k3).mono fun _ h10 ⟨cl, k1, ⟨vc, k2, k3, k4, _, k6, k7⟩, k8⟩ => ?_)
  clear hF hP
  have hF := k2
  have hP : Own h10 rb [.ptr r 0 0 3] := k3
  have m10 := k7.1
  have lvc := k4.rs.lt
  replace hV := hV.ext k7 (by simp; omega)
  have E10 := E9.step k7 fun j hj => by simp at hj; exact .inr (by omega)
  repeat' (first | refine w_seq ?_ | refine w_reg ?_ | refine w_end (by simp only [outsV, nth, setV, List.take_succ_cons, List.take_zero, List.length_cons, List.length_nil, Nat.zero_add, Nat.reduceAdd] <;> rfl) ?_ | refine w_fl rfl (by assumption) (by rfl) (by rfl) (by rfl) ?_ | refine w_opk rfl rfl ?_)
  refine w_callA [.ptr r 0 0 3, .int .u64 (.ofNat 2000), .fn 61 [] [.ptr rb 0 0 1, .ptr f 0 0 5]] rfl ((each_ok hO cBacks hB k1 (most := 2000) (by decide) (by decide) (fun h ax => J2 h10 r f rb (.int .i64 (.ofNat m)) (.int .i64 (.ofNat n)) vc .nils h ax) ⟨.nils, [], hF, hP, Ow.nils _ _, All2.nil _, by simp, by simp [slIds], ExtX.refl _ _⟩ (fun h h' ax _ k hE => k.step (by omega) (by omega) (by omega) hE) fun h ax τ k1 k2 k3 => read2_ok hO hB (by omega) (by omega) (by omega) (by omega) (by omega) (by omega) (by omega) (by omega) k1 k2 k3).mono fun _ h11 ⟨el, g1, ⟨ve, le, g2, g3, g4, gb, _, g6, g7⟩, g8⟩ => ?_)
  clear hF hP
  have hF := g2
  have hP : Own h11 rb [.ptr r 0 0 3] := g3
  have m11 := g7.1
  have lve := g4.rs.lt
  replace hV := hV.ext g7 (by simp; omega)
  replace k4 := k4.ext g7 (fun j hj e => by simp at e; have := k6 j hj; omega)
  have E11 := E10.step g7 fun j hj => by simp at hj; exact .inr (by omega)
  repeat' (first | refine w_seq ?_ | refine w_reg ?_ | refine w_end (by simp only [outsV, nth, setV, List.take_succ_cons, List.take_zero, List.length_cons, List.length_nil, Nat.zero_add, Nat.reduceAdd] <;> rfl) ?_ | refine w_fl rfl (by assumption) (by rfl) (by rfl) (by rfl) ?_ | refine w_opk rfl rfl ?_)
  refine w_callA [.ptr r 0 0 3, .int .u64 (.ofNat 100), .fn 64 [] [.ptr rb 0 0 1, .ptr f 0 0 5]] rfl ((each_ok hO cNeed hB g1 (most := 100) (by decide) (by decide) (fun h ax => J3 h11 r f rb (.int .i64 (.ofNat m)) (.int .i64 (.ofNat n)) vc ve h ax) ⟨.nils, hF, hP, Ow.nils _ _, by simp, by simp [slIds], ExtX.refl _ _⟩ (fun h h' ax _ k hE => k.step (by omega) (by omega) (by omega) hE) fun h ax τ k1 k2 k3 => read3_ok hO hB (by omega) (by omega) (by omega) (by omega) (by omega) (by omega) (by omega) (by omega) k1 k2 k3).mono fun _ h12 ⟨nl, t1, ⟨vn, t2, t3, t4, _, t6, t7⟩, t8⟩ => ?_)
  clear hF hP
  have hF := t2
  have hP : Own h12 rb [.ptr r 0 0 3] := t3
  have m12 := t7.1
  replace hV := hV.ext t7 (by simp; omega)
  replace k4 := k4.ext t7 (fun j hj e => by simp at e; have := k6 j hj; omega)
  replace g4 := g4.ext t7 (fun j hj e => by simp at e; have := g6 j hj; omega)
  have gb3 : All2 (ExitR (fun i => h0.n ≤ i ∧ i ≠ iv) h12) le el := gb.mono fun x y _ _ q => q.ext t7 (fun j hj e => by simp at e; have := hj.1; omega) fun j hj => by have := hj.1; exact ⟨by omega, by omega⟩
  have E12 := E11.step t7 fun j hj => by simp at hj; exact .inr (by omega)
  clear k7 g7 t7 gb E5 E6 E7 E8 E9 E10 E11
  have hone : allOne [.int .i64 (.ofNat m), .int .i64 (.ofNat n), vc, ve, vn] = true := by simp only [allOne, k4.rs.one, g4.rs.one, t4.rs.one]; rfl
  -- what was read
  have hall : rst (aft cFast.dec (some bs)) = rst (aft (cList cNeed 100 (by decide)).dec (rst (aft (cList cBacks 2000 (by decide)).dec (rst (aft (cList cSpec 4000 (by decide)).dec (rst (aft cN.dec (rst (aft cN.dec (some bs)))))))))) := by
    unfold cFast
    rw [rst_seq, rst_seq, rst_seq, rst_seq]
  have hval : ∀ x l, cFast.dec bs = some (x, l) → x = (.ofNat m, .ofNat n, cl, el, nl) := by
    intro x l e
    have e : aft cFast.dec (some bs) = some (x, l) := e
    unfold cFast at e
    obtain ⟨⟨_, e0⟩, e⟩ := aft_seq e
    obtain ⟨⟨_, e1⟩, e⟩ := aft_seq e
    obtain ⟨⟨_, e2⟩, e⟩ := aft_seq e
    obtain ⟨⟨_, e3⟩, e⟩ := aft_seq e
    rw [p1 _ _ e0, s1 _ _ e1, k8 _ _ e2, g8 _ _ e3, t8 _ _ e]
  rw [← hall] at t1
  clear hall p1 s1 k8 g8 t8
  have hrd : cFast.dec bs = aft cFast.dec (some bs) := rfl
  have hbad : (∀ x, cFast.dec bs ≠ some (x, [])) → ∀ {h'}, Ext h0 h' → ∀ v : V, v = .tuple [.agg fastZ, .int .i64 130] → Ext h0 h' ∧ ∃ c e, v = .tuple [.agg c, .int .i64 e] ∧ GotF h0.n h' bs c e := by
    intro h h' hE v hv
    exact ⟨hE, fastZ, 130, hv, fun x e => absurd e (h x), fun _ => ⟨rfl, rfl⟩⟩
  generalize hρ : aft cFast.dec (some bs) = ρ at *
  have hb1 := hB.rs.ext0 E12
  cases ρ with
  | none =>
    obtain ⟨c1, c2, a, c3⟩ := t1
    repeat' (first | refine w_seq ?_ | refine w_reg ?_ | refine w_end (by simp only [outsV, nth, setV, List.take_succ_cons, List.take_zero, List.length_cons, List.length_nil, Nat.zero_add, Nat.reduceAdd] <;> rfl) ?_ | refine w_off rfl ?_ | refine w_rf rfl (by assumption) (by rfl) (by rfl) (by rfl) ?_ | refine w_fl rfl (by assumption) (by rfl) (by rfl) (by rfl) ?_ | refine w_opk rfl rfl ?_ | refine w_cond_t rfl ?_)
    · refine w_build fastZ rfl rfl ?_
      refine w_store rfl rfl hV rfl rfl (by decide) (by decide) fun h13 hV2 yv zv => ?_
      repeat' (first | refine w_end (by simp only [outsV, nth, setV, List.take_succ_cons, List.take_zero, List.length_cons, List.length_nil, Nat.zero_add, Nat.reduceAdd] <;> rfl) ?_ | refine w_opk rfl rfl ?_ | refine w_ret ?_)
      have hrv : rd h13 true 5 (.ptr iv 0 0 5) = some (.agg fastZ) := rd_own hV2 rfl rfl
      refine w_rt (l := [.agg fastZ, .int .i64 130]) (by
        show (match (rd h13 true 5 (.ptr iv 0 0 5)), (some [.int .i64 (.ofNat 130)] : Option (List V)) with
          | some v, some l => some (v :: l)
          | _, _ => none) = _
        rw [hrv]
        rfl) ?_
      exact hbad (fun x e => by rw [hrd] at e; cases e) (E12.step yv fun j hj => by simp at hj; exact .inr (by omega)) _ rfl
  | some y =>
    obtain ⟨x, l⟩ := y
    obtain ⟨c1, c2, a, ha, hl, c3⟩ := t1
    subst hl
    repeat' (first | refine w_seq ?_ | refine w_reg ?_ | refine w_end (by simp only [outsV, nth, setV, List.take_succ_cons, List.take_zero, List.length_cons, List.length_nil, Nat.zero_add, Nat.reduceAdd] <;> rfl) ?_ | refine w_rf rfl (by assumption) (by rfl) (by rfl) (by rfl) ?_ | refine w_rfg rfl rfl (by assumption) (by rfl) (by rfl) (by rfl) (by rfl) ?_ | refine w_fl rfl (by assumption) (by rfl) (by rfl) (by rfl) ?_ | refine w_on rfl ?_ | refine w_len rfl (by assumption) ?_ | refine w_neqN rfl rfl (fun hc => ?_) (fun hc => ?_) | refine w_opk rfl rfl ?_ | refine w_cond_t rfl ?_ | refine w_cond_f rfl ?_ | refine w_skip ?_)
    · refine w_build fastZ rfl rfl ?_
      refine w_store rfl rfl hV rfl rfl (by decide) (by decide) fun h13 hV2 yv zv => ?_
      repeat' (first | refine w_end (by simp only [outsV, nth, setV, List.take_succ_cons, List.take_zero, List.length_cons, List.length_nil, Nat.zero_add, Nat.reduceAdd] <;> rfl) ?_ | refine w_opk rfl rfl ?_ | refine w_ret ?_)
      have hrv : rd h13 true 5 (.ptr iv 0 0 5) = some (.agg fastZ) := rd_own hV2 rfl rfl
      refine w_rt (l := [.agg fastZ, .int .i64 130]) (by
        show (match (rd h13 true 5 (.ptr iv 0 0 5)), (some [.int .i64 (.ofNat 130)] : Option (List V)) with
          | some v, some l => some (v :: l)
          | _, _ => none) = _
        rw [hrv]
        rfl) ?_
      have hne : ∀ x', cFast.dec bs ≠ some (x', []) := by
        intro x' e
        rw [hrd] at e
        simp only [Option.some.injEq, Prod.mk.injEq] at e
        have e2 := congrArg List.length e.2
        have hc : ¬ (a = (bs.map byteC).length) := by assumption
        rw [List.length_map] at hc
        simp at e2
        omega
      exact hbad hne (E12.step yv fun j hj => by simp at hj; exact .inr (by omega)) _ rfl
    · have hc : a = (bs.map byteC).length := by assumption
      rw [List.length_map] at hc
      rw [List.drop_of_length_le (by omega)] at hrd
      refine w_loadA rfl (hF.at rfl) rfl ?_
      refine w_store rfl rfl hV rfl hone (by decide) (by simp [fastZ]) fun h13 hV2 yv zv => ?_
      repeat' (first | refine w_end (by simp only [outsV, nth, setV, List.take_succ_cons, List.take_zero, List.length_cons, List.length_nil, Nat.zero_add, Nat.reduceAdd] <;> rfl) ?_ | refine w_opk rfl rfl ?_ | refine w_ret ?_)
      have hrv : rd h13 true 5 (.ptr iv 0 0 5) = some (.agg [.int .i64 (.ofNat m), .int .i64 (.ofNat n), vc, ve, vn]) := rd_own hV2 rfl rfl
      refine w_rt (l := [.agg [.int .i64 (.ofNat m), .int .i64 (.ofNat n), vc, ve, vn], .int .i64 0]) (by
        show (match (rd h13 true 5 (.ptr iv 0 0 5)), (some [.int .i64 (.ofNat 0)] : Option (List V)) with
          | some v, some l => some (v :: l)
          | _, _ => none) = _
        rw [hrv]
        rfl) ?_
      refine ⟨E12.step yv fun j hj => by simp at hj; exact .inr (by omega), _, _, rfl, fun x' e => ⟨rfl, ?_⟩, fun h => absurd hrd (h x)⟩
      rw [hval _ _ e]
      refine FastR.ext (Z := fun i => h0.n ≤ i ∧ i ≠ iv) ?_ yv (fun j hj e => by simp at e; exact hj.2 e) fun j hj => hj.1
      exact ⟨vc, ve, vn, le, rfl, ⟨k4.rs, fun j hj => by have := k6 j hj; exact ⟨by omega, by omega⟩⟩, ⟨g4.rs, fun j hj => by have := g6 j hj; exact ⟨by omega, by omega⟩⟩, gb3, ⟨t4.rs, fun j hj => by have := t6 j hj; exact ⟨by omega, by omega⟩⟩⟩
end AmT
