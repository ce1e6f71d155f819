/-
  value.Get: a value of bytes, or an error: how far it reads, and whether it can. Conditions: the bytes are bytes.
-/
import Derived.Test.YtncbfghlokfmeaaGreatDoorGetB
import Derived.Test.YtncbfghlokfmeaaGreatDoorGetI
namespace AmT
open Go Am
set_option maxRecDepth 100000
set_option maxHeartbeats 8000000
set_option linter.unusedSimpArgs false
set_option linter.unusedVariables false
variable {O : CallF}

structure OffGV (O : CallF) : Prop extends OffGB O where
  gi : ∀ a h, O 96 a h = none
  fl : ∀ a h, O 167 a h = none
  on_ : ∀ a h, O 168 a h = none
  va : ∀ a h, O 132 a h = none
  ge : ∀ a h, O 99 a h = none

theorem gfail_ok (hO : OffGV O) {h0 : Heap} {g : Nat} {b : V} {a x e0 e : Int} (hG : Own h0 g [b, .int .i64 a, .int .i64 x, .int .i64 e0]) (he : e ≠ 0) :
    WPc tab.get O 167 [.ptr g 0 0 4, .int .i64 e] h0 (fun _ h' => ∃ e' : Int, Own h' g [b, .int .i64 a, .int .i64 x, .int .i64 e'] ∧ e' ≠ 0 ∧ ExtX [g] h0 h') := by
  refine w_fn' (hO.fl _ _) rfl rfl (by simp only [c167, initV, nth] <;> rfl) ?_
  repeat' (first | refine w_seq ?_ | refine w_reg ?_ | refine w_e ?_ | refine w_rf rfl (by assumption) (by rfl) (by rfl) (by rfl) ?_ | refine w_eql rfl rfl (fun hc => ?_) (fun hc => ?_) | refine w_opk rfl rfl ?_ | refine w_cond_t rfl ?_ | refine w_cond_f rfl ?_ | refine w_skip ?_ | refine w_rt rfl ?_)
  · refine w_store rfl rfl hG rfl rfl (by decide) (by simp) fun h1 k1 k2 k3 => ?_
    repeat' (first | refine w_e ?_ | refine w_rt rfl ?_)
    exact ⟨e, k1, he, k2⟩
  · exact ⟨e0, hG, by assumption, ExtX.refl _ _⟩

def nxt1 (left : Nat) : List Nat → Option (Nat × List Nat)
  | [] => none
  | _ :: r => some (left, r)
theorem gone_ok (hO : OffGV O) {hb h0 : Heap} {g left : Nat} {b : V} {bs l : List Nat} (hB : RdB hb b bs) (hs : GtSt hb h0 g b bs (some (left, l))) :
    WPc tab.get O 168 [.ptr g 0 0 4] h0 (fun v h' => (∃ x : Nat, v = .int .u8 (.ofNat x) ∧ x < 256 ∧ ∀ y r, l = y :: r → x = y) ∧ GtSt hb h' g b bs (nxt1 left l) ∧ ExtX [g] h0 h') := by
  refine w_fn' (hO.on_ _ _) rfl rfl (by simp only [c168, initV, nth] <;> rfl) ?_
  obtain ⟨hg, hE, hL, a, ha, hl, hG⟩ := hs
  have hr := hB.rs.ext0 hE
  have hml : (bs.map byteC).length = bs.length := List.length_map ..
  have hbl := hB.len
  repeat' (first | refine w_seq ?_ | refine w_reg ?_ | refine w_e ?_ | refine w_off rfl ?_ | refine w_rf rfl (by assumption) (by rfl) (by rfl) (by rfl) ?_ | refine w_rfg rfl rfl (by assumption) (by rfl) (by rfl) (by rfl) (by rfl) ?_ | refine w_on rfl ?_ | refine w_len rfl (by assumption) ?_ | refine w_eqlN rfl rfl (fun hc => ?_) (fun hc => ?_) | refine w_neqN rfl rfl (fun hc => ?_) (fun hc => ?_) | refine w_addN rfl rfl (by omega) ?_ | refine w_opk rfl rfl ?_ | refine w_cond_t rfl ?_ | refine w_cond_f rfl ?_ | refine w_skip ?_ | refine w_ret ?_ | refine w_rt rfl ?_)
  · have hc0 : a = (bs.map byteC).length := by assumption
    have hln : l = [] := by rw [hl]; exact List.drop_of_length_le (by omega)
    subst hln
    refine w_call rfl ((gfail_ok hO hG (e := 11) (by decide)).mono fun _ h1 ⟨e', k1, k2, k3⟩ => ?_)
    repeat' (first | refine w_seq ?_ | refine w_reg ?_ | refine w_e ?_ | refine w_rf rfl (by assumption) (by rfl) (by rfl) (by rfl) ?_ | refine w_neq rfl rfl (fun hc => ?_) (fun hc => ?_) | refine w_addN rfl rfl (by omega) ?_ | refine w_opk rfl rfl ?_ | refine w_cond_t rfl ?_ | refine w_cond_f rfl ?_ | refine w_skip ?_ | refine w_ret ?_ | refine w_rt rfl ?_)
    · exact ⟨⟨0, rfl, by decide, fun y r e => by cases e⟩, ⟨hg, hE.step k3 fun j hj => by simp at hj; exact .inr (by omega), _, _, _, k1, k2⟩, k3⟩
    · exact absurd (by assumption) k2
  rotate_left
  all_goals first
    | exact absurd rfl (show (0 : Nat) ≠ 0 by assumption)
    | skip
  · have hlt : a < bs.length := by
      have : a ≠ (bs.map byteC).length := by assumption
      omega
    have hln : l = bs[a] :: bs.drop (a + 1) := by rw [hl]; exact List.drop_eq_getElem_cons hlt
    have hx := hB.by_ _ (List.getElem_mem hlt)
    refine w_store rfl rfl hG rfl rfl (by decide) (by simp) fun h1 k1 k2 k3 => ?_
    have hE1 : Ext hb h1 := hE.step k2 fun j hj => by simp at hj; exact .inr (by omega)
    have hr1 := hB.rs.ext0 hE1
    replace k1 : Own h1 g [b, .int .i64 (.ofNat (a + 1)), .int .i64 (.ofNat left), .int .i64 0] := k1
    repeat' (first | refine w_seq ?_ | refine w_reg ?_ | refine w_e ?_ | refine w_rf rfl (by assumption) (by rfl) (by rfl) (by rfl) ?_ | refine w_opq rfl rfl ?_)
    refine w_subN (b := 1) rfl (by rfl) (by omega) (by omega) ?_
    refine w_iadrS rfl rfl hr1 (show a + 1 - 1 < _ by omega) ?_
    have hA := slot_at (j := a + 1 - 1) hr1 (by omega)
    rw [List.getElem_map] at hA
    refine w_load1 (c := []) rfl hA rfl ?_
    repeat' (first | refine w_e ?_ | refine w_opq rfl rfl ?_ | refine w_ret ?_ | refine w_rt rfl ?_)
    subst hln
    exact ⟨⟨bs[a], by simp only [Nat.add_sub_cancel]; rfl, hx, fun y r e => by cases e; rfl⟩, ⟨hg, hE1, hL, a + 1, by omega, rfl, k1⟩, k2⟩

/-- What holds behind the kinds: the place behind, or an error. -/
def GtF (h : Heap) (g : Nat) (b : V) (bs : List Nat) (e nx : V) (τ : Option (Nat × List Nat)) : Prop :=
  (∃ left l a' a, τ = some (left, l) ∧ e = .int .i64 0 ∧ nx = .int .i64 (.ofNat a') ∧ a' ≤ bs.length ∧ l = bs.drop a' ∧ left ≤ 256 ∧ Own h g [b, .int .i64 (.ofNat a), .int .i64 (.ofNat left), .int .i64 0]) ∨
  (τ = none ∧ ∃ a x e0 e1 n1 : Int, e = .int .i64 e1 ∧ nx = .int .i64 n1 ∧ Own h g [b, .int .i64 a, .int .i64 x, .int .i64 e0] ∧ (e1 ≠ 0 ∨ e0 ≠ 0))

theorem gone_none (hO : OffGV O) {h0 : Heap} {g : Nat} {b : V} {a x e : Int} (hG : Own h0 g [b, .int .i64 a, .int .i64 x, .int .i64 e]) (he : e ≠ 0) :
    WPc tab.get O 168 [.ptr g 0 0 4] h0 (fun v h' => v = .int .u8 (.ofNat 0) ∧ h' = h0) := by
  refine w_fn' (hO.on_ _ _) rfl rfl (by simp only [c168, initV, nth] <;> rfl) ?_
  repeat' (first | refine w_seq ?_ | refine w_reg ?_ | refine w_e ?_ | refine w_off rfl ?_ | refine w_rf rfl (by assumption) (by rfl) (by rfl) (by rfl) ?_ | refine w_rfg rfl rfl (by assumption) (by rfl) (by rfl) (by rfl) (by rfl) ?_ | refine w_on rfl ?_ | refine w_eql rfl rfl (fun hc => ?_) (fun hc => ?_) | refine w_neq rfl rfl (fun hc => ?_) (fun hc => ?_) | refine w_opk rfl rfl ?_ | refine w_cond_t rfl ?_ | refine w_cond_f rfl ?_ | refine w_skip ?_ | refine w_ret ?_ | refine w_rt rfl ?_)
  all_goals first
    | exact absurd (show e = 0 by assumption) he
    | exact ⟨rfl, rfl⟩

theorem gval_bad (hO : OffGV O) {hb h0 : Heap} {g lv left : Nat} {b : V} {bs l : List Nat} (hs : GtSt hb h0 g b bs (some (left, l))) (hbad : lv = 0 ∨ left = 0) :
    WPc tab.get O 132 [.ptr g 0 0 4, .int .i64 (.ofNat lv)] h0 (fun v h' => (∃ c, v = .agg c ∧ c.length = 4 ∧ allOne c = true) ∧ GtSt hb h' g b bs none ∧ ExtX [g] h0 h') := by
  obtain ⟨hg, hE, hL, a, ha, hl, hG⟩ := hs
  refine w_fn' (hO.va _ _) rfl rfl (by simp only [c132, initV, nth] <;> rfl) ?_
  have hgl := hG.1
  refine w_seq (w_reg (w_alloc fun i2 h1 h2o hi2 hE1 => ?_))
  have m1 := hE1.1
  have hG1 := hG.ext0 hE1
  repeat' (first | refine w_seq ?_ | refine w_reg ?_ | refine w_e ?_ | refine w_rf rfl (by assumption) (by rfl) (by rfl) (by rfl) ?_ | refine w_opq rfl rfl ?_)
  refine w_subW rfl rfl ?_
  have hx : left = 0 → IntKind.i64.wrap (Int.ofNat left - 1) < 0 := by rintro rfl; decide
  generalize hxx : IntKind.i64.wrap (Int.ofNat left - 1) = x at *
  repeat' (first | refine w_opk rfl rfl ?_)
  refine w_store rfl rfl hG1 rfl rfl (by decide) (by simp) fun h2 k1 k2 k3 => ?_
  replace k1 : Own h2 g [b, .int .i64 (.ofNat a), .int .i64 x, .int .i64 0] := k1
  have h2o' := h2o.ext k2 (by simp; omega)
  have X2 : ExtX [g] h0 h2 := (hE1.mono (by simp)).trans k2
  repeat' (first | refine w_seq ?_ | refine w_reg ?_ | refine w_e ?_ | refine w_off rfl ?_ | refine w_rf rfl (by assumption) (by rfl) (by rfl) (by rfl) ?_ | refine w_on rfl ?_ | refine w_eqlN rfl rfl (fun hc => ?_) (fun hc => ?_) | refine w_lss rfl rfl (fun hc => ?_) (fun hc => ?_) | refine w_opk rfl rfl ?_ | refine w_cond_t rfl ?_ | refine w_cond_f rfl ?_ | refine w_skip ?_)
  rotate_left 2
  · rcases hbad with h | h
    · exact absurd h (by assumption)
    · have := hx h
      exact absurd (show (0 : Int) ≤ x by assumption) (by omega)
  all_goals
    refine w_call rfl ((gfail_ok hO k1 (e := 13) (by decide)).mono fun _ h3 ⟨e1, p1, he1, p2⟩ => ?_)
    have m2 := h2o'.1
    have h2p := h2o'.ext p2 (by simp; omega)
    have X3 := X2.trans p2
  all_goals (repeat' (first | refine w_seq ?_ | refine w_reg ?_ | refine w_e ?_ | refine w_opk rfl rfl ?_))
  all_goals
    refine w_call rfl ((gone_none hO p1 he1).mono fun _ h4 ⟨e, e4⟩ => ?_)
    subst e e4
    refine w_build [.int .u8 (.ofNat 0), .int .i64 0, .str [], .nils] rfl rfl ?_
    refine w_alloc fun i5 h5 h5o hi5 hE5 => ?_
    refine w_store rfl rfl h5o rfl rfl (by decide) (by simp) fun h6 h5b y5 z5 => ?_
    replace h5b : Own h6 i5 [.int .u8 (.ofNat 0), .int .i64 0, .str [], .nils] := h5b
    have hX : Ext h4 h6 := hE5.step y5 fun j hj => by simp at hj; exact .inr (by omega)
    have hi2l := h2p.1
    have hgl4 := p1.1
    have p6 := p1.ext0 hX
    have h26 := h2p.ext0 hX
    have X6 := X3.trans (hX.mono (S' := [g]) (by simp))
  all_goals (repeat' (first | refine w_seq ?_ | refine w_reg ?_ | refine w_e ?_ | refine w_rf rfl (by assumption) (by rfl) (by rfl) (by rfl) ?_ | refine w_neq rfl rfl (fun hc => ?_) (fun hc => ?_) | refine w_opk rfl rfl ?_ | refine w_cond_t rfl ?_ | refine w_cond_f rfl ?_ | refine w_skip ?_))
  all_goals first
    | exact absurd (show e1 = 0 by assumption) he1
    | skip
  all_goals
    refine w_loadA rfl (h5b.at rfl) rfl ?_
    refine w_store rfl rfl h26 rfl rfl (by decide) (by simp) fun h8 u1 u2 u3 => ?_
    replace u1 : Own h8 i2 [.int .u8 (.ofNat 0), .int .i64 0, .str [], .nils] := u1
    have p8 := p6.ext u2 (by simp; omega)
    have X8 : ExtX [g] h0 h8 := X6.step u2 fun j hj => by simp at hj; exact .inr (by omega)
  all_goals (repeat' (first | refine w_e ?_ | refine w_ret ?_))
  all_goals exact w_rtc rfl u1 rfl rfl ⟨⟨_, rfl, rfl, rfl⟩, ⟨hg, hE.step X8 fun j hj => by simp at hj; exact .inr (by omega), _, _, _, p8, he1⟩, X8⟩

abbrev GtP (h0 : Heap) (g lv i2 i5 : Nat) (b : V) (bs : List Nat) (τ : Option (Nat × List Nat)) (vs : List V) (h : Heap) : Prop :=
  ∃ e nx b3 b4 b6 b7 b9 b10 b11 b12 b13 b14 b15 b16 b17 b19 b20 c5, vs = [.ptr g 0 0 4, .int .i64 (.ofNat (lv + 1)), .ptr i2 0 0 4, b3, b4, .ptr i5 0 0 4, b6, b7, e, b9, b10, b11, b12, b13, b14, b15, b16, b17, nx, b19, b20] ∧
    Own h i2 [.int .u8 0, .int .i64 0, .str [], .nils] ∧ Own h i5 c5 ∧ c5.length = 4 ∧ allOne c5 = true ∧ ExtX [g] h0 h ∧ GtF h g b bs e nx τ

theorem gval_ok (hO : OffGV O) {hb : Heap} {g : Nat} {b : V} {bs : List Nat} (hB : RdB hb b bs) (ho : Ow hb 1 b (bs.map byteC)) : ∀ (lv : Nat) {h0 : Heap} {left : Nat} {l : List Nat}, lv ≤ 16 → GtSt hb h0 g b bs (some (left, l)) →
    WPc tab.get O 132 [.ptr g 0 0 4, .int .i64 (.ofNat lv)] h0 (fun v h' => (∃ c, v = .agg c ∧ c.length = 4 ∧ allOne c = true) ∧ GtSt hb h' g b bs (rst3 (decV lv left l)) ∧ ExtX [g] h0 h') := by
  intro lv
  induction lv with
  | zero =>
    intro h0 left l hlv hs
    rw [dec_0]
    exact gval_bad hO hs (.inl rfl)
  | succ lv ih =>
  intro h0 left l hlv hs
  cases left with
  | zero =>
    rw [dec_n]
    exact gval_bad hO hs (.inr rfl)
  | succ left =>
  obtain ⟨hg, hE, hL, a, ha, hl, hG⟩ := hs
  refine w_fn' (hO.va _ _) rfl rfl (by simp only [c132, initV, nth] <;> rfl) ?_
  have hgl := hG.1
  have hbl := hB.len
  refine w_seq (w_reg (w_alloc fun i2 h1 h2o hi2 hE1 => ?_))
  have m1 := hE1.1
  have hG1 := hG.ext0 hE1
  repeat' (first | refine w_seq ?_ | refine w_reg ?_ | refine w_e ?_ | refine w_rf rfl (by assumption) (by rfl) (by rfl) (by rfl) ?_ | refine w_opq rfl rfl ?_)
  refine w_subN (b := 1) rfl (by rfl) (by omega) (by omega) ?_
  repeat' (first | refine w_opk rfl rfl ?_)
  refine w_store rfl rfl hG1 rfl rfl (by decide) (by simp) fun h2 k1 k2 k3 => ?_
  replace k1 : Own h2 g [b, .int .i64 (.ofNat a), .int .i64 (.ofNat left), .int .i64 0] := k1
  have h2o' := h2o.ext k2 (by simp; omega)
  have X2 : ExtX [g] h0 h2 := (hE1.mono (by simp)).trans k2
  have s2 : GtSt hb h2 g b bs (some (left, l)) := ⟨hg, (hE.trans hE1).step k2 fun j hj => by simp at hj; exact .inr (by omega), by omega, a, ha, hl, k1⟩
  clear h2o hG hG1 hE1 k2
  repeat' (first | refine w_seq ?_ | refine w_reg ?_ | refine w_e ?_ | refine w_off rfl ?_ | refine w_rf rfl (by assumption) (by rfl) (by rfl) (by rfl) ?_ | refine w_on rfl ?_ | refine w_lssN rfl rfl (fun hc => ?_) (fun hc => ?_) | refine w_eqlN rfl rfl (fun hc => ?_) (fun hc => ?_) | refine w_opk rfl rfl ?_ | refine w_cond_t rfl ?_ | refine w_cond_f rfl ?_ | refine w_skip ?_)
  · exact absurd (show left < 0 by assumption) (by omega)
  · exact absurd (show lv + 1 = 0 by assumption) (by omega)
  refine w_call rfl ((gone_ok hO hB s2).mono fun _ h3 ⟨⟨k, e, hk, hkk⟩, s3, x3⟩ => ?_)
  subst e
  have m3 := x3.1
  refine w_build [.int .u8 (.ofNat k), .int .i64 0, .str [], .nils] rfl rfl ?_
  refine w_alloc fun i5 h4 h5o hi5 hE4 => ?_
  refine w_store rfl rfl h5o rfl rfl (by decide) (by simp) fun h5 h5b y5 z5 => ?_
  replace h5b : Own h5 i5 [.int .u8 (.ofNat k), .int .i64 0, .str [], .nils] := h5b
  have hi2l := h2o'.1
  have m4 := hE4.1
  have h2b := ((h2o'.ext x3 (by simp; omega)).ext0 hE4).ext y5 (by simp; omega)
  have X5 : ExtX [g] h0 h5 := ((X2.trans x3).step (hE4.mono (S' := [i5]) (by simp)) fun j hj => by simp at hj; exact .inr (by omega)).step y5 fun j hj => by simp at hj; exact .inr (by omega)
  have s5 := (s3.ext0 hE4).ext y5 (by simp; omega) fun j hj => by simp at hj; omega
  have hi5l := h5b.1
  clear h2o' h5o y5 hE4 x3 s3 X2
  cases l with
  | nil =>
    obtain ⟨_, _, a', x', e', hG5, he'⟩ := s5
    repeat' (first | refine w_seq ?_ | refine w_reg ?_ | refine w_e ?_ | refine w_rf rfl (by assumption) (by rfl) (by rfl) (by rfl) ?_ | refine w_neq rfl rfl (fun hc => ?_) (fun hc => ?_) | refine w_opk rfl rfl ?_ | refine w_cond_t rfl ?_ | refine w_cond_f rfl ?_ | refine w_skip ?_)
    · refine w_loadA rfl (h5b.at rfl) rfl ?_
      refine w_store rfl rfl h2b rfl rfl (by decide) (by simp) fun h6 q1 q2 q3 => ?_
      repeat' (first | refine w_e ?_ | refine w_ret ?_)
      refine w_rtc rfl q1 rfl rfl ⟨⟨_, rfl, rfl, rfl⟩, ?_, X5.step q2 fun j hj => by simp at hj; exact .inr (by omega)⟩
      rw [dec_e]
      exact ⟨hg, (hE.step X5 fun j hj => by simp at hj; exact .inr (by omega)).step q2 fun j hj => by simp at hj; exact .inr (by omega), a', x', e', hG5.ext q2 (by simp; omega), he'⟩
    · exact absurd (by assumption) he'
  | cons k' r =>
  obtain rfl := hkk k' r rfl
  have s5' := s5
  obtain ⟨_, hE5, _, a5, ha5, hl5, hG5⟩ := s5'
  repeat' (first | refine w_seq ?_ | refine w_reg ?_ | refine w_e ?_ | refine w_rf rfl (by assumption) (by rfl) (by rfl) (by rfl) ?_ | refine w_opk rfl rfl ?_ | refine w_cond_f rfl ?_ | refine w_skip ?_)
  generalize hτ : rst3 (decV (lv + 1) (left + 1) (k :: r)) = τ
  refine w_block_cut (GtP h0 g lv i2 i5 b bs τ) ?_ ?_
  · repeat' (first | refine w_seq ?_ | refine w_reg ?_ | refine w_e ?_ | refine w_rf rfl (by assumption) (by rfl) (by rfl) (by rfl) ?_ | refine w_eqlN rfl rfl (fun hc => ?_) (fun hc => ?_) | refine w_opk rfl rfl ?_ | refine w_cond_t rfl ?_ | refine w_cond_f rfl ?_ | refine w_skip ?_)
    · have hk1 : k = 1 := by assumption
      subst hk1
      rw [dec_1 rfl] at hτ
      refine w_call rfl ((getI_ok hO.gu hO.gi (hB.rs.ext0 hE5) hB.by_ ha5 hbl).mono fun _ h6 ⟨hv, e6⟩ => ?_)
      subst e6
      rw [← hl5] at hv
      cases hd : dU 9 true r with
      | none =>
        rw [hd] at hv hτ
        obtain ⟨e, he, rfl⟩ := hv
        repeat' (first | refine w_opk rfl rfl ?_)
        refine w_store rfl rfl h5b rfl rfl (by decide) (by simp) fun h7 q1 q2 q3 => ?_
        repeat' (first | refine w_seq ?_ | refine w_reg ?_ | refine w_e ?_ | refine w_off rfl ?_ | refine w_rfg rfl rfl (by assumption) (by rfl) (by rfl) (by rfl) (by rfl) ?_ | refine w_on rfl ?_ | refine w_lssN rfl rfl (fun hc => ?_) (fun hc => ?_) | refine w_eqlN rfl rfl (fun hc => ?_) (fun hc => ?_) | refine w_eql rfl rfl (fun hc => ?_) (fun hc => ?_) | refine w_opk rfl rfl ?_ | refine w_cond_t rfl ?_ | refine w_cond_f rfl ?_ | refine w_skip ?_)
        all_goals first
          | exact absurd (show e = 0 by assumption) he
          | exact ⟨_, _, _, _, _, _, _, _, _, _, _, _, _, _, _, _, _, _, rfl, h2b.ext q2 (by simp; omega), q1, rfl, rfl, X5.step q2 fun j hj => by simp at hj; exact .inr (by omega), .inr ⟨hτ.symm, _, _, _, _, _, rfl, rfl, hG5.ext q2 (by simp; omega), .inl he⟩⟩
      | some y =>
        obtain ⟨m, r2⟩ := y
        rw [hd] at hv hτ
        obtain ⟨rfl, hr2⟩ := hv
        obtain ⟨w1, w2⟩ := dU_drop hB.by_ ha5 (hl5 ▸ hd)
        repeat' (first | refine w_opk rfl rfl ?_)
        refine w_store rfl rfl h5b rfl rfl (by decide) (by simp) fun h7 q1 q2 q3 => ?_
        replace q1 : Own h7 i5 [.int .u8 (.ofNat 1), .int .i64 (zag m), .str [], .nils] := q1
        repeat' (first | refine w_seq ?_ | refine w_reg ?_ | refine w_e ?_ | refine w_off rfl ?_ | refine w_rfg rfl rfl (by assumption) (by rfl) (by rfl) (by rfl) (by rfl) ?_ | refine w_on rfl ?_ | refine w_eqlN rfl rfl (fun hc => ?_) (fun hc => ?_) | refine w_lss rfl rfl (fun hc => ?_) (fun hc => ?_) | refine w_opk rfl rfl ?_ | refine w_cond_t rfl ?_ | refine w_cond_f rfl ?_ | refine w_skip ?_)
        all_goals first
          | exact absurd rfl (by assumption)
          | exact absurd (show (1 : Nat) = 5 by assumption) (by decide)
          | skip
        exact ⟨_, _, _, _, _, _, _, _, _, _, _, _, _, _, _, _, _, _, rfl, h2b.ext q2 (by simp; omega), q1, rfl, rfl, X5.step q2 fun j hj => by simp at hj; exact .inr (by omega), .inl ⟨left, r2, bs.length - r2.length, a5, hτ.symm, rfl, rfl, by omega, w1, by omega, hG5.ext q2 (by simp; omega)⟩⟩
    · have hk1 : k = 5 := by assumption
      subst hk1
      rw [dec_5 rfl] at hτ
      refine w_call rfl ((getI_ok hO.gu hO.gi (hB.rs.ext0 hE5) hB.by_ ha5 hbl).mono fun _ h6 ⟨hv, e6⟩ => ?_)
      subst e6
      rw [← hl5] at hv
      cases hd : dU 9 true r with
      | none =>
        rw [hd] at hv hτ
        obtain ⟨e, he, rfl⟩ := hv
        repeat' (first | refine w_opk rfl rfl ?_)
        refine w_store rfl rfl h5b rfl rfl (by decide) (by simp) fun h7 q1 q2 q3 => ?_
        repeat' (first | refine w_seq ?_ | refine w_reg ?_ | refine w_e ?_ | refine w_off rfl ?_ | refine w_rfg rfl rfl (by assumption) (by rfl) (by rfl) (by rfl) (by rfl) ?_ | refine w_on rfl ?_ | refine w_lssN rfl rfl (fun hc => ?_) (fun hc => ?_) | refine w_eqlN rfl rfl (fun hc => ?_) (fun hc => ?_) | refine w_eql rfl rfl (fun hc => ?_) (fun hc => ?_) | refine w_opk rfl rfl ?_ | refine w_cond_t rfl ?_ | refine w_cond_f rfl ?_ | refine w_skip ?_)
        all_goals first
          | exact absurd (show e = 0 by assumption) he
          | exact ⟨_, _, _, _, _, _, _, _, _, _, _, _, _, _, _, _, _, _, rfl, h2b.ext q2 (by simp; omega), q1, rfl, rfl, X5.step q2 fun j hj => by simp at hj; exact .inr (by omega), .inr ⟨hτ.symm, _, _, _, _, _, rfl, rfl, hG5.ext q2 (by simp; omega), .inl he⟩⟩
      | some y =>
        obtain ⟨m, r2⟩ := y
        rw [hd] at hv hτ
        obtain ⟨rfl, hr2⟩ := hv
        obtain ⟨w1, w2⟩ := dU_drop hB.by_ ha5 (hl5 ▸ hd)
        repeat' (first | refine w_opk rfl rfl ?_)
        refine w_store rfl rfl h5b rfl rfl (by decide) (by simp) fun h7 q1 q2 q3 => ?_
        replace q1 : Own h7 i5 [.int .u8 (.ofNat 5), .int .i64 (zag m), .str [], .nils] := q1
        repeat' (first | refine w_seq ?_ | refine w_reg ?_ | refine w_e ?_ | refine w_off rfl ?_ | refine w_rfg rfl rfl (by assumption) (by rfl) (by rfl) (by rfl) (by rfl) ?_ | refine w_on rfl ?_ | refine w_eqlN rfl rfl (fun hc => ?_) (fun hc => ?_) | refine w_lss rfl rfl (fun hc => ?_) (fun hc => ?_) | refine w_opk rfl rfl ?_ | refine w_cond_t rfl ?_ | refine w_cond_f rfl ?_ | refine w_skip ?_)
        all_goals first
          | exact absurd rfl (by assumption)
          | skip
        · have hz : zag m < 0 := by assumption
          simp only [if_pos hz] at hτ
          exact ⟨_, _, _, _, _, _, _, _, _, _, _, _, _, _, _, _, _, _, rfl, h2b.ext q2 (by simp; omega), q1, rfl, rfl, X5.step q2 fun j hj => by simp at hj; exact .inr (by omega), .inr ⟨hτ.symm, _, _, _, _, _, rfl, rfl, hG5.ext q2 (by simp; omega), .inl (by decide)⟩⟩
        · have hz : ¬ zag m < 0 := by
            have : (0 : Int) ≤ zag m := by assumption
            omega
          simp only [if_neg hz] at hτ
          exact ⟨_, _, _, _, _, _, _, _, _, _, _, _, _, _, _, _, _, _, rfl, h2b.ext q2 (by simp; omega), q1, rfl, rfl, X5.step q2 fun j hj => by simp at hj; exact .inr (by omega), .inl ⟨left, r2, bs.length - r2.length, a5, hτ.symm, rfl, rfl, by omega, w1, by omega, hG5.ext q2 (by simp; omega)⟩⟩
    · have hk1 : k = 2 := by assumption
      subst hk1
      rw [dec_2 rfl] at hτ
      refine w_call rfl ((gone_ok hO hB (left := left) (l := r) s5).mono fun _ h6 ⟨⟨x, e, hx, hxx⟩, s6, x6⟩ => ?_)
      subst e
      have m6 := x6.1
      have h56 := h5b.ext x6 (by simp; omega)
      have h26 := h2b.ext x6 (by simp; omega)
      refine w_toI (b := .ofNat x) rfl (wrap_i64_nat (by omega)) ?_
      repeat' (first | refine w_opk rfl rfl ?_)
      refine w_store rfl rfl h56 rfl rfl (by decide) (by simp) fun h7 q1 q2 q3 => ?_
      replace q1 : Own h7 i5 [.int .u8 (.ofNat 2), .int .i64 (.ofNat x), .str [], .nils] := q1
      have X7 : ExtX [g] h0 h7 := (X5.trans x6).step q2 fun j hj => by simp at hj; exact .inr (by omega)
      have h27 := h26.ext q2 (by simp; omega)
      have s7 := s6.ext q2 (by simp; omega) fun j hj => by simp at hj; omega
      cases r with
      | nil =>
        obtain ⟨_, _, a', x', e', hG7, he'⟩ := s7
        repeat' (first | refine w_seq ?_ | refine w_reg ?_ | refine w_e ?_ | refine w_rf rfl (by assumption) (by rfl) (by rfl) (by rfl) ?_ | refine w_gtrN rfl rfl (fun hc => ?_) (fun hc => ?_) | refine w_opk rfl rfl ?_ | refine w_cond_t rfl ?_ | refine w_cond_f rfl ?_ | refine w_skip ?_)
        all_goals exact ⟨_, _, _, _, _, _, _, _, _, _, _, _, _, _, _, _, _, _, rfl, h27, q1, rfl, rfl, X7, .inr ⟨hτ.symm, _, _, _, _, _, rfl, rfl, hG7, .inr he'⟩⟩
      | cons y r2 =>
        obtain rfl := hxx y r2 rfl
        simp only at hτ
        obtain ⟨_, _, _, a7, ha7, hl7, hG7⟩ := s7
        repeat' (first | refine w_seq ?_ | refine w_reg ?_ | refine w_e ?_ | refine w_rf rfl (by assumption) (by rfl) (by rfl) (by rfl) ?_ | refine w_gtrN rfl rfl (fun hc => ?_) (fun hc => ?_) | refine w_opk rfl rfl ?_ | refine w_cond_t rfl ?_ | refine w_cond_f rfl ?_ | refine w_skip ?_)
        · have hx1 : 1 < x := by assumption
          rw [if_neg (by omega)] at hτ
          exact ⟨_, _, _, _, _, _, _, _, _, _, _, _, _, _, _, _, _, _, rfl, h27, q1, rfl, rfl, X7, .inr ⟨hτ.symm, _, _, _, _, _, rfl, rfl, hG7, .inl (by decide)⟩⟩
        · have hx1 : x ≤ 1 := by assumption
          rw [if_pos hx1] at hτ
          exact ⟨_, _, _, _, _, _, _, _, _, _, _, _, _, _, _, _, _, _, rfl, h27, q1, rfl, rfl, X7, .inl ⟨left, r2, a7, a7, hτ.symm, rfl, rfl, ha7, hl7, by omega, hG7⟩⟩
    · have hk1 : k = 3 := by assumption
      subst hk1
      rw [dec_3 rfl] at hτ
      refine w_callA [b, .int .i64 (.ofNat a5), .int .i64 (.ofNat 4096)] rfl ((getB_ok hO.toOffGB (most := 4096) (by decide) (by decide) (ho.ext0 hE5) hB.by_ ha5 hbl).mono fun _ h6 ⟨hv, E6⟩ => ?_)
      rw [← hl5] at hv
      have m6 := E6.1
      have h56 := h5b.ext0 E6
      have h26 := h2b.ext0 E6
      have hG6 := hG5.ext0 E6
      have X6 := X5.trans (E6.mono (S' := [g]) (by simp))
      cases hd : (cBlob 4096 (by decide)).dec r with
      | none =>
        rw [hd] at hv hτ
        obtain ⟨e, he, rfl⟩ := hv
        repeat' (first | refine w_reg ?_ | refine w_e ?_ | refine w_opk rfl rfl ?_)
        refine w_store rfl rfl h56 rfl rfl (by decide) (by simp) fun h7 q1 q2 q3 => ?_
        repeat' (first | refine w_e ?_)
        exact ⟨_, _, _, _, _, _, _, _, _, _, _, _, _, _, _, _, _, _, rfl, h26.ext q2 (by simp; omega), q1, rfl, rfl, X6.step q2 fun j hj => by simp at hj; exact .inr (by omega), .inr ⟨hτ.symm, _, _, _, _, _, rfl, rfl, hG6.ext q2 (by simp; omega), .inl he⟩⟩
      | some y =>
        obtain ⟨t, r2⟩ := y
        rw [hd] at hv hτ
        obtain ⟨sv, rfl, rsv, hr2, _⟩ := hv
        obtain ⟨_, w1⟩ := (cBlob 4096 (by decide)).de r t r2 (by rw [hl5]; exact fun x hx => hB.by_ x (List.mem_of_mem_drop hx)) hd
        have w2 : r2 = bs.drop (bs.length - r2.length) := drop_back (p := bs.take a5 ++ (cBlob 4096 (by decide)).enc t) (by rw [List.append_assoc, ← w1, hl5, List.take_append_drop])
        repeat' (first | refine w_reg ?_ | refine w_e ?_ | refine w_opk rfl rfl ?_)
        refine w_toStr rfl rsv ?_
        repeat' (first | refine w_opk rfl rfl ?_)
        refine w_store rfl rfl h56 rfl rfl (by decide) (by simp) fun h7 q1 q2 q3 => ?_
        repeat' (first | refine w_e ?_)
        exact ⟨_, _, _, _, _, _, _, _, _, _, _, _, _, _, _, _, _, _, rfl, h26.ext q2 (by simp; omega), q1, rfl, rfl, X6.step q2 fun j hj => by simp at hj; exact .inr (by omega), .inl ⟨left, r2, bs.length - r2.length, a5, hτ.symm, rfl, rfl, by omega, w2, by omega, hG6.ext q2 (by simp; omega)⟩⟩
    · have hk1 : k = 4 := by assumption
      subst hk1
      rw [dec_4 rfl] at hτ
      refine w_call rfl ((getU_ok hO.gu (hB.rs.ext0 hE5) hB.by_ ha5 hbl).mono fun _ h6 ⟨hv, e6⟩ => ?_)
      subst e6
      rw [← hl5] at hv
      cases hd : dU 9 true r with
      | none =>
        rw [hd] at hv hτ
        obtain ⟨e, he, rfl⟩ := hv
        repeat' (first | refine w_seq ?_ | refine w_reg ?_ | refine w_e ?_ | refine w_off rfl ?_ | refine w_on rfl ?_ | refine w_gtrN rfl rfl (fun hc => ?_) (fun hc => ?_) | refine w_eqlN rfl rfl (fun hc => ?_) (fun hc => ?_) | refine w_eql rfl rfl (fun hc => ?_) (fun hc => ?_) | refine w_opk rfl rfl ?_ | refine w_cond_t rfl ?_ | refine w_cond_f rfl ?_ | refine w_skip ?_)
        all_goals first
          | exact absurd (show e = 0 by assumption) he
          | exact ⟨_, _, _, _, _, _, _, _, _, _, _, _, _, _, _, _, _, _, rfl, h2b, h5b, rfl, rfl, X5, .inr ⟨hτ.symm, _, _, _, _, _, rfl, rfl, hG5, .inl he⟩⟩
      | some y =>
        obtain ⟨m, r2⟩ := y
        rw [hd] at hv hτ
        obtain ⟨rfl, hm64, hr2⟩ := hv
        obtain ⟨w1, w2⟩ := dU_drop hB.by_ ha5 (hl5 ▸ hd)
        by_cases hm : m ≤ 256
        · simp only [if_pos hm] at hτ
          repeat' (first | refine w_seq ?_ | refine w_reg ?_ | refine w_e ?_ | refine w_off rfl ?_ | refine w_on rfl ?_ | refine w_gtrN rfl rfl (fun hc => ?_) (fun hc => ?_) | refine w_eqlN rfl rfl (fun hc => ?_) (fun hc => ?_) | refine w_opk rfl rfl ?_ | refine w_cond_t rfl ?_ | refine w_cond_f rfl ?_ | refine w_skip ?_)
          all_goals first
            | exact absurd rfl (by assumption)
            | exact absurd (show 256 < m by assumption) (by omega)
            | skip
          refine w_store rfl rfl hG5 rfl rfl (by decide) (by simp) fun h7 q1 q2 q3 => ?_
          replace q1 : Own h7 g [b, .int .i64 (.ofNat (bs.length - r2.length)), .int .i64 (.ofNat left), .int .i64 0] := q1
          have X7 : ExtX [g] h0 h7 := X5.trans q2
          have s7 : GtSt hb h7 g b bs (some (left, r2)) := ⟨hg, hE5.step q2 fun j hj => by simp at hj; exact .inr (by omega), by omega, _, by omega, w1, q1⟩
          have h57 := h5b.ext q2 (by simp; omega)
          have h27 := h2b.ext q2 (by simp; omega)
          clear q1 q2 hG5 h5b h2b X5 s5 s2
          repeat' (first | refine w_seq ?_ | refine w_e ?_)
          refine w_block_cut (fun vs h => ∃ b3 b4 b6 b7 b9 b10 b11 b12 b13 b14 mm b16 b17 b18 b19 b20 tv, vs = [.ptr g 0 0 4, .int .i64 (.ofNat (lv + 1)), .ptr i2 0 0 4, b3, b4, .ptr i5 0 0 4, b6, b7, .int .i64 0, b9, b10, b11, b12, b13, b14, .int .u64 (.ofNat mm), b16, b17, b18, b19, b20] ∧ Own h i2 [.int .u8 0, .int .i64 0, .str [], .nils] ∧ Own h i5 [.int .u8 (.ofNat 4), .int .i64 0, .str [], tv] ∧ tv.one = true ∧ ExtX [g] h0 h ∧ h7.n ≤ h.n ∧ GtSt hb h g b bs τ)
            (w_loop (fun mm vs h => ∃ b3 b4 b6 b7 b9 b10 b11 b12 b13 b14 b16 b17 b18 b19 b20 tv lc σ, vs = [.ptr g 0 0 4, .int .i64 (.ofNat (lv + 1)), .ptr i2 0 0 4, b3, b4, .ptr i5 0 0 4, b6, b7, .int .i64 0, b9, b10, b11, b12, b13, b14, .int .u64 (.ofNat mm), b16, b17, b18, b19, b20] ∧ Own h i2 [.int .u8 0, .int .i64 0, .str [], .nils] ∧ Own h i5 [.int .u8 (.ofNat 4), .int .i64 0, .str [], tv] ∧ Ow h 4 tv lc ∧ lc.length + mm ≤ 256 ∧ (∀ j ∈ slIds tv, h7.n ≤ j) ∧ ExtX [g] h0 h ∧ h7.n ≤ h.n ∧ GtSt hb h g b bs σ ∧ (σ = none → τ = none) ∧ ∀ n l, σ = some (n, l) → τ = rst3 (repV (decV lv) mm n l)) ?_ m _ _
              ⟨_, _, _, _, _, _, _, _, _, _, _, _, _, _, _, .nils, [], _, rfl, h27, h57, Ow.nils _ _, by simpa using hm, by simp [slIds], X7, Nat.le_refl _, s7, (fun e => by cases e), fun n l e => by cases e; exact hτ.symm⟩) ?_
          · clear hτ s7 h57 h27 X7
            rintro mm vs h ⟨b3, b4, b6, b7, b9, b10, b11, b12, b13, b14, b16, b17, b18, b19, b20, tv, lc, σ, rfl, h2c, h5c, hO, hlc, hids, X, hn, s, t1, t2⟩
            cases σ with
            | none =>
              have s' := s
              obtain ⟨_, _, a', x', e', hG, he'⟩ := s'
              have ht := t1 rfl
              repeat' (first | refine w_seq ?_ | refine w_reg ?_ | refine w_e ?_ | refine w_off rfl ?_ | refine w_rfg rfl rfl (by assumption) (by rfl) (by rfl) (by rfl) (by rfl) ?_ | refine w_on rfl ?_ | refine w_gtrN rfl rfl (fun hc => ?_) (fun hc => ?_) | refine w_eql rfl rfl (fun hc => ?_) (fun hc => ?_) | refine w_opk rfl rfl ?_ | refine w_cond_t rfl ?_ | refine w_cond_f rfl ?_ | refine w_skip ?_ | refine w_exit rfl ?_)
              all_goals first
                | exact absurd (show e' = 0 by assumption) he'
                | exact ⟨_, _, _, _, _, _, _, _, _, _, _, _, _, _, _, _, tv, rfl, h2c, h5c, hO.rs.one, X, hn, ht ▸ s⟩
            | some y =>
              obtain ⟨n, l⟩ := y
              have hT := t2 n l rfl
              have s' := s
              obtain ⟨_, hE', _, a', _, _, hG⟩ := s'
              repeat' (first | refine w_seq ?_ | refine w_reg ?_ | refine w_e ?_ | refine w_off rfl ?_ | refine w_rfg rfl rfl (by assumption) (by rfl) (by rfl) (by rfl) (by rfl) ?_ | refine w_on rfl ?_ | refine w_gtrN rfl rfl (fun hc => ?_) (fun hc => ?_) | refine w_eqlN rfl rfl (fun hc => ?_) (fun hc => ?_) | refine w_opq rfl rfl ?_ | refine w_cond_t rfl ?_ | refine w_cond_f rfl ?_ | refine w_skip ?_ | refine w_exit rfl ?_)
              all_goals first
                | exact absurd rfl (by assumption)
                | skip
              · have hm0 : 0 < mm := by assumption
                obtain ⟨mm, rfl⟩ : ∃ j, mm = j + 1 := ⟨mm - 1, by omega⟩
                refine w_block ?_
                repeat' (first | refine w_reg ?_ | refine w_rf rfl (by assumption) (by rfl) (by rfl) (by rfl) ?_ | refine w_opq rfl rfl ?_)
                refine w_subN (b := 1) rfl (by rfl) (by omega) (by omega) ?_
                have hgl2 := hG.1
                have h2l := h2c.1
                have h5l := h5c.1
                refine w_callA [.ptr g 0 0 4, .int .i64 (.ofNat lv)] rfl ((ih (by omega) s).mono fun _ h8 ⟨⟨c, e, hc4, hc1⟩, s8, x8⟩ => ?_)
                subst e
                have m8 := x8.1
                have h58 := h5c.ext x8 (by simp; omega)
                have h28 := h2c.ext x8 (by simp; omega)
                have hO8 := hO.ext x8 fun j hj e => by simp at e; have := hids j hj; omega
                refine w_chk1 (c := []) rfl rfl ((h58.at rfl).fadr (d := 3) (by simp)) (V.beq_refl _) ?_
                refine w_push rfl hc4 rfl hc1 (fun _ => rfl) hO8 (by omega) fun aa tv' h9 hv' hf' => ?_
                have h59 := h58.ext hf'.1 fun e => by have := hids i5 e; omega
                have h29 := h28.ext hf'.1 fun e => by have := hids i2 e; omega
                have s9 := s8.ext hf'.1 (fun e => by have := hids g e; omega) fun j hj => by have := hids j hj; have := hE'.1; omega
                have m9 := hf'.1.1
                repeat' (first | refine w_opq rfl rfl ?_)
                refine w_store rfl rfl h59 (by rw [V.cells1 hv'.rs.one]; rfl) (by rw [V.cells1 hv'.rs.one]; simp only [allOne, hv'.rs.one]) (by decide) (by simp) fun h10 u1 u2 u3 => ?_
                rw [V.cells1 hv'.rs.one] at u1
                replace u1 : Own h10 i5 [.int .u8 (.ofNat 4), .int .i64 0, .str [], tv'] := u1
                have hnew : ∀ j ∈ slIds tv', h7.n ≤ j := fun j hj => by
                  rcases hf'.2 j hj with e | e
                  · exact hids j e
                  · omega
                repeat' (first | refine w_reg ?_ | refine w_e ?_ | refine w_opq rfl rfl ?_)
                refine w_dec64 rfl (by omega) ?_
                repeat' (first | refine w_e ?_ | refine w_opq rfl rfl ?_)
                refine ⟨mm, by omega, _, _, _, _, _, _, _, _, _, _, _, _, _, _, _, tv', lc ++ [c], _, rfl, h29.ext u2 (by simp; omega), u1, hv'.ext u2 (fun j hj e => by simp at e; have := hnew j hj; omega), by simp; omega, hnew, ?_, by omega, s9.ext u2 (by simp; omega) (fun j hj => by simp at hj; omega), fun e => ?_, fun n2 l2 e => ?_⟩
                · exact ((X.trans x8).step hf'.1 fun j hj => .inr (by have := hids j hj; have := X.1; omega)).step u2 fun j hj => by simp at hj; exact .inr (by omega)
                · rw [hT, rep3, e]
                · rw [hT, rep3, e]
              · have hm0 : mm = 0 := by
                  have : mm ≤ 0 := by assumption
                  omega
                subst hm0
                have hT2 : τ = some (n, l) := hT
                exact ⟨_, _, _, _, _, _, _, _, _, _, _, _, _, _, _, _, tv, rfl, h2c, h5c, hO.rs.one, X, hn, hT2 ▸ s⟩
          · rintro vs h ⟨b3, b4, b6, b7, b9, b10, b11, b12, b13, b14, mm, b16, b17, b18, b19, b20, tv, rfl, h2c, h5c, ho1, X, hn, s⟩
            have h51 : allOne [V.int .u8 (.ofNat 4), .int .i64 0, .str [], tv] = true := by simp only [allOne, ho1]; rfl
            cases hσ : τ with
            | none =>
              rw [hσ] at s
              obtain ⟨_, _, a', x', e', hG, he'⟩ := s
              repeat' (first | refine w_reg ?_ | refine w_e ?_ | refine w_rf rfl (by assumption) (by rfl) (by rfl) (by rfl) ?_ | refine w_opk rfl rfl ?_)
              exact ⟨_, _, _, _, _, _, _, _, _, _, _, _, _, _, _, _, _, _, rfl, h2c, h5c, rfl, h51, X, .inr ⟨rfl, _, _, _, _, _, rfl, rfl, hG, .inr he'⟩⟩
            | some y =>
              obtain ⟨n, l⟩ := y
              rw [hσ] at s
              obtain ⟨_, _, hn2, a', ha', hl', hG⟩ := s
              repeat' (first | refine w_reg ?_ | refine w_e ?_ | refine w_rf rfl (by assumption) (by rfl) (by rfl) (by rfl) ?_ | refine w_opk rfl rfl ?_)
              exact ⟨_, _, _, _, _, _, _, _, _, _, _, _, _, _, _, _, _, _, rfl, h2c, h5c, rfl, h51, X, .inl ⟨n, l, a', a', rfl, rfl, rfl, ha', hl', hn2, hG⟩⟩
        · simp only [if_neg hm] at hτ
          repeat' (first | refine w_seq ?_ | refine w_reg ?_ | refine w_e ?_ | refine w_off rfl ?_ | refine w_on rfl ?_ | refine w_gtrN rfl rfl (fun hc => ?_) (fun hc => ?_) | refine w_eqlN rfl rfl (fun hc => ?_) (fun hc => ?_) | refine w_opk rfl rfl ?_ | refine w_cond_t rfl ?_ | refine w_cond_f rfl ?_ | refine w_skip ?_)
          all_goals first
            | exact absurd rfl (by assumption)
            | exact absurd (show m ≤ 256 by assumption) hm
            | exact absurd (show (13 : Nat) = 0 by assumption) (by decide)
            | skip
          all_goals exact ⟨_, _, _, _, _, _, _, _, _, _, _, _, _, _, _, _, _, _, rfl, h2b, h5b, rfl, rfl, X5, .inr ⟨hτ.symm, _, _, _, _, _, rfl, rfl, hG5, .inl (by decide)⟩⟩
    · rw [dec_x (by assumption) (by assumption) (by assumption) (by assumption) (by assumption)] at hτ
      exact ⟨_, _, _, _, _, _, _, _, _, _, _, _, _, _, _, _, _, _, rfl, h2b, h5b, rfl, rfl, X5, .inr ⟨hτ.symm, _, _, _, _, _, rfl, rfl, hG5, .inl (by decide)⟩⟩
  · rintro vs h ⟨e, nx, b3, b4, b6, b7, b9, b10, b11, b12, b13, b14, b15, b16, b17, b19, b20, c5, rfl, h2c, h5c, hl5c, ho5c, X, hF⟩
    have hi2h := h2c.1
    rcases hF with ⟨left', l', a', a0, rfl, rfl, rfl, ha', hl', hn', hG⟩ | ⟨rfl, a', x', e0, e1, n1, rfl, rfl, hG, he⟩
    · repeat' (first | refine w_seq ?_ | refine w_reg ?_ | refine w_e ?_ | refine w_opk rfl rfl ?_ | refine w_cond_f rfl ?_ | refine w_skip ?_)
      refine w_store rfl rfl hG rfl rfl (by decide) (by simp) fun h7 q1 q2 q3 => ?_
      replace q1 : Own h7 g [b, .int .i64 (.ofNat a'), .int .i64 (.ofNat left'), .int .i64 0] := q1
      have h5d := h5c.ext q2 (by simp; omega)
      have h2d := h2c.ext q2 (by simp; omega)
      repeat' (first | refine w_seq ?_ | refine w_reg ?_ | refine w_e ?_)
      refine w_loadA rfl (h5d.at hl5c) (by rw [hl5c]; rfl) ?_
      rw [List.take_of_length_le (by omega)]
      refine w_store rfl rfl h2d hl5c ho5c (by decide) (by simp) fun h8 u1 u2 u3 => ?_
      replace u1 : Own h8 i2 c5 := by
        rwa [show splice [V.int .u8 0, .int .i64 0, .str [], .nils] 0 (V.agg c5).cells = c5 from by rw [splice]; exact over_all hl5c] at u1
      repeat' (first | refine w_e ?_ | refine w_ret ?_)
      have X8 : ExtX [g] h0 h8 := (X.trans q2).step u2 fun j hj => by simp at hj; exact .inr (by omega)
      refine w_rtc rfl u1 hl5c rfl ⟨⟨_, rfl, hl5c, ho5c⟩, ⟨hg, hE.step X8 fun j hj => by simp at hj; exact .inr (by omega), hn', a', ha', hl', q1.ext u2 (by simp; omega)⟩, X8⟩
    · by_cases he1 : e1 = 0
      · subst he1
        have he0 : e0 ≠ 0 := by
          rcases he with h | h
          · exact absurd rfl h
          · exact h
        repeat' (first | refine w_seq ?_ | refine w_reg ?_ | refine w_e ?_ | refine w_opk rfl rfl ?_ | refine w_cond_f rfl ?_ | refine w_skip ?_)
        refine w_store rfl rfl hG rfl rfl (by decide) (by simp) fun h7 q1 q2 q3 => ?_
        replace q1 : Own h7 g [b, .int .i64 n1, .int .i64 x', .int .i64 e0] := q1
        have h5d := h5c.ext q2 (by simp; omega)
        have h2d := h2c.ext q2 (by simp; omega)
        repeat' (first | refine w_seq ?_ | refine w_reg ?_ | refine w_e ?_)
        refine w_loadA rfl (h5d.at hl5c) (by rw [hl5c]; rfl) ?_
        rw [List.take_of_length_le (by omega)]
        refine w_store rfl rfl h2d hl5c ho5c (by decide) (by simp) fun h8 u1 u2 u3 => ?_
        replace u1 : Own h8 i2 c5 := by
          rwa [show splice [V.int .u8 0, .int .i64 0, .str [], .nils] 0 (V.agg c5).cells = c5 from by rw [splice]; exact over_all hl5c] at u1
        repeat' (first | refine w_e ?_ | refine w_ret ?_)
        have X8 : ExtX [g] h0 h8 := (X.trans q2).step u2 fun j hj => by simp at hj; exact .inr (by omega)
        refine w_rtc rfl u1 hl5c rfl ⟨⟨_, rfl, hl5c, ho5c⟩, ⟨hg, hE.step X8 fun j hj => by simp at hj; exact .inr (by omega), n1, x', e0, q1.ext u2 (by simp; omega), he0⟩, X8⟩
      · repeat' (first | refine w_seq ?_ | refine w_reg ?_ | refine w_e ?_ | refine w_neq rfl rfl (fun hc => ?_) (fun hc => ?_) | refine w_opk rfl rfl ?_ | refine w_cond_t rfl ?_ | refine w_cond_f rfl ?_ | refine w_skip ?_)
        · refine w_call rfl ((gfail_ok hO hG he1).mono fun _ h6 ⟨e2, p1, he2, p2⟩ => ?_)
          have h5p := h5c.ext p2 (by simp; omega)
          have h2p := h2c.ext p2 (by simp; omega)
          have X6 := X.trans p2
          repeat' (first | refine w_seq ?_ | refine w_reg ?_ | refine w_e ?_ | refine w_opk rfl rfl ?_)
          refine w_store rfl rfl p1 rfl rfl (by decide) (by simp) fun h7 q1 q2 q3 => ?_
          replace q1 : Own h7 g [b, .int .i64 n1, .int .i64 x', .int .i64 e2] := q1
          have h5d := h5p.ext q2 (by simp; omega)
          have h2d := h2p.ext q2 (by simp; omega)
          repeat' (first | refine w_seq ?_ | refine w_reg ?_ | refine w_e ?_)
          refine w_loadA rfl (h5d.at hl5c) (by rw [hl5c]; rfl) ?_
          rw [List.take_of_length_le (by omega)]
          refine w_store rfl rfl h2d hl5c ho5c (by decide) (by simp) fun h8 u1 u2 u3 => ?_
          replace u1 : Own h8 i2 c5 := by
            rwa [show splice [V.int .u8 0, .int .i64 0, .str [], .nils] 0 (V.agg c5).cells = c5 from by rw [splice]; exact over_all hl5c] at u1
          repeat' (first | refine w_e ?_ | refine w_ret ?_)
          have X8 : ExtX [g] h0 h8 := (X6.trans q2).step u2 fun j hj => by simp at hj; exact .inr (by omega)
          refine w_rtc rfl u1 hl5c rfl ⟨⟨_, rfl, hl5c, ho5c⟩, ⟨hg, hE.step X8 fun j hj => by simp at hj; exact .inr (by omega), n1, x', e2, q1.ext u2 (by simp; omega), he2⟩, X8⟩
        · exact absurd (by assumption) he1

/-- What value.Get tells, but for the value. -/
def GotV (n : Nat) (v : V) (o : Option (Nat × List Nat)) : Prop :=
  ∃ c, c.length = 4 ∧ allOne c = true ∧ match o with
  | some (_, r) => v = .tuple [.agg c, .int .i64 (.ofNat (n - r.length)), .int .i64 0] ∧ r.length ≤ n
  | none => ∃ e : Int, e ≠ 0 ∧ v = .tuple [.agg c, .int .i64 (.ofNat 0), .int .i64 e]

theorem vget_ok (hO : OffGV O) {h0 : Heap} {b : V} {bs : List Nat} {a : Nat} (hB : RdB h0 b bs) (ho : Ow h0 1 b (bs.map byteC)) (ha : a ≤ bs.length) :
    WPc tab.get O 99 [b, .int .i64 (.ofNat a)] h0 (fun v h' => GotV bs.length v (rst3 (decV 16 256 (bs.drop a))) ∧ Ext h0 h') := by
  refine w_fn' (hO.ge _ _) rfl rfl (by simp only [c99, initV, nth] <;> rfl) ?_
  have b1 := hB.rs.one
  have hml : (bs.map byteC).length = bs.length := List.length_map ..
  refine w_seq (w_reg (w_alloc fun i2 h1 h2o hi2 hE1 => ?_))
  have m1 := hE1.1
  have hr1 := hB.rs.ext0 hE1
  repeat' (first | refine w_seq ?_ | refine w_reg ?_ | refine w_e ?_ | refine w_off rfl ?_ | refine w_on rfl ?_ | refine w_len rfl (by assumption) ?_ | refine w_lssN rfl rfl (fun hc => ?_) (fun hc => ?_) | refine w_gtrN rfl rfl (fun hc => ?_) (fun hc => ?_) | refine w_opk rfl rfl ?_ | refine w_cond_t rfl ?_ | refine w_cond_f rfl ?_ | refine w_skip ?_)
  · exact absurd (show a < 0 by assumption) (by omega)
  · exact absurd (show (bs.map byteC).length < a by assumption) (by omega)
  refine w_build [b, .int .i64 (.ofNat a), .int .i64 (.ofNat 256), .int .i64 0] rfl (by simp only [fillP, V.cells1 b1, allOne, b1]; rfl) ?_
  refine w_box rfl rfl (by simp only [V.cells, allOne, b1]; rfl) fun g h3 hG hg hE3 => ?_
  replace hG : Own h3 g [b, .int .i64 (.ofNat a), .int .i64 (.ofNat 256), .int .i64 0] := hG
  have E3 := hE1.trans hE3
  have s3 : GtSt h1 h3 g b bs (some (256, bs.drop a)) := ⟨hg, hE3, by omega, a, ha, rfl, hG⟩
  have hgl := hG.1
  have hi2l := h2o.1
  have m3 := hE3.1
  have h23 := h2o.ext0 hE3
  repeat' (first | refine w_seq ?_ | refine w_reg ?_ | refine w_e ?_ | refine w_opk rfl rfl ?_)
  refine w_callA [.ptr g 0 0 4, .int .i64 (.ofNat 16)] rfl ((gval_ok hO ⟨hr1, hB.by_, hB.len⟩ (ho.ext0 hE1) 16 (Nat.le_refl _) s3).mono fun _ h4 ⟨⟨c, e, hc4, hc1⟩, s4, x4⟩ => ?_)
  subst e
  have m4 := x4.1
  have h24 := h23.ext x4 (by simp; omega)
  have E4 : Ext h0 h4 := E3.step x4 fun j hj => by simp at hj; exact .inr (by omega)
  refine w_alloc fun i8 h5 h8o hi8 hE5 => ?_
  refine w_store rfl rfl h8o hc4 hc1 (by decide) (by simp) fun h6 h8b y6 z6 => ?_
  replace h8b : Own h6 i8 c := by
    rwa [show splice _ 0 (V.agg c).cells = c from by rw [splice]; exact over_all hc4] at h8b
  have hX : Ext h4 h6 := hE5.step y6 fun j hj => by simp at hj; exact .inr (by omega)
  have E6 := E4.trans hX
  have h26 := h24.ext0 hX
  have s6 := s4.ext0 hX
  have h8l := h8b.1
  have hi2l6 := h26.1
  have hne : i2 ≠ i8 := by have := h24.1; omega
  have hgn : g ≠ i8 := by have := s4.base.2.2; omega
  clear h8o y6 hE5 s4 h24 h23 h2o hX
  generalize rst3 (decV 16 256 (bs.drop a)) = τ at *
  cases τ with
  | none =>
    obtain ⟨_, _, a', x', e', hG6, he'⟩ := s6
    repeat' (first | refine w_seq ?_ | refine w_reg ?_ | refine w_e ?_ | refine w_rf rfl (by assumption) (by rfl) (by rfl) (by rfl) ?_ | refine w_neq rfl rfl (fun hc => ?_) (fun hc => ?_) | refine w_opk rfl rfl ?_ | refine w_cond_t rfl ?_ | refine w_cond_f rfl ?_ | refine w_skip ?_)
    · refine w_build [.int .u8 0, .int .i64 0, .str [], .nils] rfl rfl ?_
      repeat' (first | refine w_rf rfl (by assumption) (by rfl) (by rfl) (by rfl) ?_ | refine w_opk rfl rfl ?_)
      refine w_store rfl rfl h26 rfl rfl (by decide) (by simp) fun h7 u1 u2 u3 => ?_
      replace u1 : Own h7 i2 [.int .u8 0, .int .i64 0, .str [], .nils] := u1
      have hG7 := hG6.ext u2 (by simp; omega)
      refine w_chk1 rfl rfl ((hG7.at rfl).fadr (d := 3) (by simp)) (V.beq_refl _) ?_
      repeat' (first | refine w_e ?_ | refine w_opk rfl rfl ?_ | refine w_ret ?_)
      exact w_rtc rfl u1 rfl rfl ⟨⟨_, rfl, rfl, e', he', rfl⟩, E6.step u2 fun j hj => by simp at hj; exact .inr (by omega)⟩
    · exact absurd (by assumption) he'
  | some y =>
    obtain ⟨n, r⟩ := y
    obtain ⟨_, _, _, a', ha', hl', hG6⟩ := s6
    repeat' (first | refine w_seq ?_ | refine w_reg ?_ | refine w_e ?_ | refine w_rf rfl (by assumption) (by rfl) (by rfl) (by rfl) ?_ | refine w_opk rfl rfl ?_ | refine w_cond_f rfl ?_ | refine w_skip ?_)
    refine w_loadA rfl (h8b.at hc4) (by rw [hc4]; rfl) ?_
    rw [List.take_of_length_le (by omega)]
    repeat' (first | refine w_rf rfl (by assumption) (by rfl) (by rfl) (by rfl) ?_ | refine w_opk rfl rfl ?_)
    refine w_store rfl rfl h26 hc4 hc1 (by decide) (by simp) fun h7 u1 u2 u3 => ?_
    replace u1 : Own h7 i2 c := by
      rwa [show splice _ 0 (V.agg c).cells = c from by rw [splice]; exact over_all hc4] at u1
    have hG7 := hG6.ext u2 (by simp; omega)
    refine w_chk1 rfl rfl ((hG7.at rfl).fadr (d := 1) (by simp)) (V.beq_refl _) ?_
    repeat' (first | refine w_e ?_ | refine w_opk rfl rfl ?_ | refine w_ret ?_)
    have hlr : r.length = bs.length - a' := by rw [hl', List.length_drop]
    refine w_rtc rfl u1 hc4 rfl ⟨⟨c, hc4, hc1, ?_, by omega⟩, E6.step u2 fun j hj => by simp at hj; exact .inr (by omega)⟩
    rw [show bs.length - r.length = a' by omega]
    rfl
end AmT
