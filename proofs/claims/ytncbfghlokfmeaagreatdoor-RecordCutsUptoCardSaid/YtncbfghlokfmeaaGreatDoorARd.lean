/-
  actor's reader: numbers, counts, tags and values, or none. Conditions: the bytes are bytes.
-/
import Derived.Test.YtncbfghlokfmeaaGreatDoorVGet
namespace AmT
open Go Am
set_option maxRecDepth 100000
set_option maxHeartbeats 8000000
set_option linter.unusedSimpArgs false
set_option linter.unusedVariables false
variable {O : CallF}

structure OffAR (O : CallF) : Prop extends OffGV O where
  mv : ∀ a h, O 97 a h = none
  nu : ∀ a h, O 59 a h = none
  ct : ∀ a h, O 62 a h = none
  tg : ∀ a h, O 60 a h = none
  vs : ∀ a h, O 61 a h = none
  rd : ∀ a h, O 26 a h = none

theorem gotI_any {n a : Nat} {v : V} {o : Option (Nat × List Nat)} (h : GotI n a v o) : ∃ n x e : Int, v = .tuple [.int .i64 n, .int .i64 x, .int .i64 e] := by
  cases o with
  | none => obtain ⟨e, _, rfl⟩ := h; exact ⟨_, _, _, rfl⟩
  | some y => obtain ⟨rfl, _⟩ := h; exact ⟨_, _, _, rfl⟩
theorem gotU_any {n a : Nat} {v : V} {o : Option (Nat × List Nat)} (h : GotU n a v o) : ∃ n x e : Int, v = .tuple [.int .u64 n, .int .i64 x, .int .i64 e] := by
  cases o with
  | none => obtain ⟨e, _, rfl⟩ := h; exact ⟨_, _, _, rfl⟩
  | some y => obtain ⟨rfl, _⟩ := h; exact ⟨_, _, _, rfl⟩
theorem gotB_any {lo n : Nat} {h' : Heap} {v : V} {o : Option (List UInt8 × List Nat)} (h : GotB lo h' n v o) : ∃ w, ∃ x e : Int, v = .tuple [w, .int .i64 x, .int .i64 e] := by
  cases o with
  | none => obtain ⟨e, _, rfl⟩ := h; exact ⟨_, _, _, rfl⟩
  | some y => obtain ⟨sv, rfl, _⟩ := h; exact ⟨_, _, _, rfl⟩

theorem moved_ok (hO : OffAR O) {h0 : Heap} {r : Nat} {b : V} {a x : Int} (hR : Own h0 r [b, .int .i64 a, .bool false]) :
    WPc tab.get O 97 [.ptr r 0 0 3, .int .i64 x, .int .i64 0] h0 (fun v h' => v = .bool true ∧ Own h' r [b, .int .i64 x, .bool false] ∧ ExtX [r] h0 h') := by
  refine w_fn' (hO.mv _ _) rfl rfl (by simp only [c97, initV, nth] <;> rfl) ?_
  repeat' (first | refine w_seq ?_ | refine w_reg ?_ | refine w_e ?_ | refine w_rf rfl (by assumption) (by rfl) (by rfl) (by rfl) ?_ | refine w_on rfl ?_ | refine w_opk rfl rfl ?_)
  refine w_store rfl rfl hR rfl rfl (by decide) (by simp) fun h1 k1 k2 k3 => ?_
  replace k1 : Own h1 r [b, .int .i64 a, .bool false] := k1
  repeat' (first | refine w_seq ?_ | refine w_reg ?_ | refine w_e ?_ | refine w_rf rfl (by assumption) (by rfl) (by rfl) (by rfl) ?_ | refine w_opk rfl rfl ?_ | refine w_cond_t rfl ?_)
  refine w_store rfl rfl k1 rfl rfl (by decide) (by simp) fun h2 q1 q2 q3 => ?_
  replace q1 : Own h2 r [b, .int .i64 x, .bool false] := q1
  repeat' (first | refine w_seq ?_ | refine w_reg ?_ | refine w_e ?_ | refine w_rf rfl (by assumption) (by rfl) (by rfl) (by rfl) ?_ | refine w_opk rfl rfl ?_ | refine w_ret ?_ | refine w_rt rfl ?_)
  exact ⟨rfl, q1, k2.trans q2⟩
theorem moved_bad (hO : OffAR O) {h0 : Heap} {r : Nat} {b : V} {a x e : Int} {bad : Bool} (hR : Own h0 r [b, .int .i64 a, .bool bad]) (hb : bad = true ∨ e ≠ 0) :
    WPc tab.get O 97 [.ptr r 0 0 3, .int .i64 x, .int .i64 e] h0 (fun v h' => v = .bool false ∧ Own h' r [b, .int .i64 a, .bool true] ∧ ExtX [r] h0 h') := by
  refine w_fn' (hO.mv _ _) rfl rfl (by simp only [c97, initV, nth] <;> rfl) ?_
  cases bad with
  | true =>
    repeat' (first | refine w_seq ?_ | refine w_reg ?_ | refine w_e ?_ | refine w_off rfl ?_ | refine w_rf rfl (by assumption) (by rfl) (by rfl) (by rfl) ?_ | refine w_opk rfl rfl ?_)
    refine w_store rfl rfl hR rfl rfl (by decide) (by simp) fun h1 k1 k2 k3 => ?_
    replace k1 : Own h1 r [b, .int .i64 a, .bool true] := k1
    repeat' (first | refine w_seq ?_ | refine w_reg ?_ | refine w_e ?_ | refine w_rf rfl (by assumption) (by rfl) (by rfl) (by rfl) ?_ | refine w_opk rfl rfl ?_ | refine w_cond_f rfl ?_ | refine w_skip ?_ | refine w_ret ?_ | refine w_rt rfl ?_)
    exact ⟨rfl, k1, k2⟩
  | false =>
    have he : e ≠ 0 := hb.elim (fun h => by cases h) id
    repeat' (first | refine w_seq ?_ | refine w_reg ?_ | refine w_e ?_ | refine w_rf rfl (by assumption) (by rfl) (by rfl) (by rfl) ?_ | refine w_on rfl ?_ | refine w_neq rfl rfl (fun hc => ?_) (fun hc => ?_) | refine w_opk rfl rfl ?_)
    · refine w_store rfl rfl hR rfl rfl (by decide) (by simp) fun h1 k1 k2 k3 => ?_
      replace k1 : Own h1 r [b, .int .i64 a, .bool true] := k1
      repeat' (first | refine w_seq ?_ | refine w_reg ?_ | refine w_e ?_ | refine w_rf rfl (by assumption) (by rfl) (by rfl) (by rfl) ?_ | refine w_opk rfl rfl ?_ | refine w_cond_f rfl ?_ | refine w_skip ?_ | refine w_ret ?_ | refine w_rt rfl ?_)
      exact ⟨rfl, k1, k2⟩
    · exact absurd (by assumption) he

theorem anum_ok (hO : OffAR O) {hb h0 : Heap} {r : Nat} {b : V} {bs : List Nat} {σ : Option (List Nat)} (hB : RdB hb b bs) (hs : RaSt hb h0 r b bs σ) :
    WPc tab.get O 59 [.ptr r 0 0 3] h0 (fun v h' => (∃ x : Int, v = .int .i64 x ∧ ∀ y l, aft cI64.dec σ = some (y, l) → x = y) ∧ RaSt hb h' r b bs (rst (aft cI64.dec σ)) ∧ ExtX [r] h0 h') := by
  refine w_fn' (hO.nu _ _) rfl rfl (by simp only [c59, initV, nth] <;> rfl) ?_
  have hbl := hB.len
  cases σ with
  | none =>
    obtain ⟨h1, h2, a, ha, hR⟩ := hs
    have hrs := hB.rs.ext0 h2
    repeat' (first | refine w_seq ?_ | refine w_reg ?_ | refine w_e ?_ | refine w_rf rfl (by assumption) (by rfl) (by rfl) (by rfl) ?_ | refine w_opk rfl rfl ?_)
    refine w_call rfl ((getI_ok hO.gu hO.gi hrs hB.by_ ha hbl).mono fun _ h1' ⟨hv, e1⟩ => ?_)
    subst e1
    obtain ⟨n, x, e, rfl⟩ := gotI_any hv
    repeat' (first | refine w_seq ?_ | refine w_reg ?_ | refine w_e ?_ | refine w_opk rfl rfl ?_)
    refine w_call rfl ((moved_bad hO hR (.inl rfl)).mono fun _ h3 ⟨e, k1, k2⟩ => ?_)
    subst e
    repeat' (first | refine w_seq ?_ | refine w_reg ?_ | refine w_e ?_ | refine w_opk rfl rfl ?_ | refine w_cond_t rfl ?_ | refine w_ret ?_ | refine w_rt rfl ?_)
    exact ⟨⟨0, rfl, fun y l e => by cases e⟩, ⟨h1, h2.step k2 fun j hj => by simp at hj; exact .inr (by omega), a, ha, k1⟩, k2⟩
  | some l =>
    obtain ⟨h1, h2, a, ha, rfl, hR⟩ := hs
    have hrs := hB.rs.ext0 h2
    repeat' (first | refine w_seq ?_ | refine w_reg ?_ | refine w_e ?_ | refine w_rf rfl (by assumption) (by rfl) (by rfl) (by rfl) ?_ | refine w_opk rfl rfl ?_)
    refine w_call rfl ((getI_ok hO.gu hO.gi hrs hB.by_ ha hbl).mono fun _ h1' ⟨hv, e1⟩ => ?_)
    subst e1
    have hD : aft cI64.dec (some (bs.drop a)) = dMap (fun n => some (zag n)) (dU 9 true (bs.drop a)) := rfl
    cases hd : dU 9 true (bs.drop a) with
    | none =>
      rw [hd] at hv hD
      rw [hD]
      obtain ⟨e, he, rfl⟩ := hv
      repeat' (first | refine w_seq ?_ | refine w_reg ?_ | refine w_e ?_ | refine w_opk rfl rfl ?_)
      refine w_call rfl ((moved_bad hO hR (.inr he)).mono fun _ h3 ⟨e, k1, k2⟩ => ?_)
      subst e
      repeat' (first | refine w_seq ?_ | refine w_reg ?_ | refine w_e ?_ | refine w_opk rfl rfl ?_ | refine w_cond_t rfl ?_ | refine w_ret ?_ | refine w_rt rfl ?_)
      exact ⟨⟨0, rfl, fun y l e => by cases e⟩, ⟨h1, h2.step k2 fun j hj => by simp at hj; exact .inr (by omega), a, ha, k1⟩, k2⟩
    | some y =>
      obtain ⟨m, r2⟩ := y
      rw [hd] at hv hD
      rw [hD]
      obtain ⟨rfl, hr2⟩ := hv
      obtain ⟨w1, w2⟩ := dU_drop hB.by_ ha hd
      repeat' (first | refine w_seq ?_ | refine w_reg ?_ | refine w_e ?_ | refine w_opk rfl rfl ?_)
      refine w_call rfl ((moved_ok hO hR).mono fun _ h3 ⟨e, k1, k2⟩ => ?_)
      subst e
      repeat' (first | refine w_seq ?_ | refine w_reg ?_ | refine w_e ?_ | refine w_opk rfl rfl ?_ | refine w_cond_f rfl ?_ | refine w_skip ?_ | refine w_ret ?_ | refine w_rt rfl ?_)
      exact ⟨⟨zag m, rfl, fun y l e => by cases e; rfl⟩, ⟨h1, h2.step k2 fun j hj => by simp at hj; exact .inr (by omega), _, by omega, w1, k1⟩, k2⟩

theorem acount_ok (hO : OffAR O) {hb h0 : Heap} {r : Nat} {b : V} {bs : List Nat} {σ : Option (List Nat)} (hB : RdB hb b bs) (hs : RaSt hb h0 r b bs σ) {most : Nat} (hm : most < 18446744073709551616) (hm2 : most < 9223372036854775808) :
    WPc tab.get O 62 [.ptr r 0 0 3, .int .u64 (.ofNat most)] h0 (fun v h' => ∃ n : Nat, v = .int .i64 (.ofNat n) ∧ n ≤ most ∧ (∀ x l, aft (cNum most hm).dec σ = some (x, l) → Int.ofNat n = x) ∧ (aft (cNum most hm).dec σ = none → n = 0) ∧ RaSt hb h' r b bs (rst (aft (cNum most hm).dec σ)) ∧ ExtX [r] h0 h') := by
  refine w_fn' (hO.ct _ _) rfl rfl (by simp only [c62, initV, nth] <;> rfl) ?_
  have hbl := hB.len
  cases σ with
  | none =>
    obtain ⟨h1, h2, a, ha, hR⟩ := hs
    have hrs := hB.rs.ext0 h2
    repeat' (first | refine w_seq ?_ | refine w_reg ?_ | refine w_e ?_ | refine w_rf rfl (by assumption) (by rfl) (by rfl) (by rfl) ?_ | refine w_opk rfl rfl ?_)
    refine w_call rfl ((getU_ok hO.gu hrs hB.by_ ha hbl).mono fun _ h1' ⟨hv, e1⟩ => ?_)
    subst e1
    obtain ⟨n, x, e, rfl⟩ := gotU_any hv
    repeat' (first | refine w_seq ?_ | refine w_reg ?_ | refine w_e ?_ | refine w_opk rfl rfl ?_)
    refine w_call rfl ((moved_bad hO hR (.inl rfl)).mono fun _ h3 ⟨e, k1, k2⟩ => ?_)
    subst e
    repeat' (first | refine w_seq ?_ | refine w_reg ?_ | refine w_e ?_ | refine w_off rfl ?_ | refine w_opk rfl rfl ?_ | refine w_cond_t rfl ?_)
    refine w_store rfl rfl k1 rfl rfl (by decide) (by simp) fun h4 q1 q2 q3 => ?_
    repeat' (first | refine w_seq ?_ | refine w_reg ?_ | refine w_e ?_ | refine w_opk rfl rfl ?_ | refine w_ret ?_ | refine w_rt rfl ?_)
    exact ⟨0, rfl, Nat.zero_le _, fun y l e => (by cases e), fun _ => rfl, ⟨h1, (h2.step k2 fun j hj => by simp at hj; exact .inr (by omega)).step q2 fun j hj => by simp at hj; exact .inr (by omega), a, ha, q1⟩, k2.trans q2⟩
  | some l =>
    obtain ⟨h1, h2, a, ha, rfl, hR⟩ := hs
    have hrs := hB.rs.ext0 h2
    repeat' (first | refine w_seq ?_ | refine w_reg ?_ | refine w_e ?_ | refine w_rf rfl (by assumption) (by rfl) (by rfl) (by rfl) ?_ | refine w_opk rfl rfl ?_)
    refine w_call rfl ((getU_ok hO.gu hrs hB.by_ ha hbl).mono fun _ h1' ⟨hv, e1⟩ => ?_)
    subst e1
    have hD : aft (cNum most hm).dec (some (bs.drop a)) = dMap (fun n => if n ≤ most then some (Int.ofNat n) else none) (dU 9 true (bs.drop a)) := rfl
    cases hd : dU 9 true (bs.drop a) with
    | none =>
      rw [hd] at hv hD
      rw [hD]
      obtain ⟨e, he, rfl⟩ := hv
      repeat' (first | refine w_seq ?_ | refine w_reg ?_ | refine w_e ?_ | refine w_opk rfl rfl ?_)
      refine w_call rfl ((moved_bad hO hR (.inr he)).mono fun _ h3 ⟨e, k1, k2⟩ => ?_)
      subst e
      repeat' (first | refine w_seq ?_ | refine w_reg ?_ | refine w_e ?_ | refine w_off rfl ?_ | refine w_opk rfl rfl ?_ | refine w_cond_t rfl ?_)
      refine w_store rfl rfl k1 rfl rfl (by decide) (by simp) fun h4 q1 q2 q3 => ?_
      repeat' (first | refine w_seq ?_ | refine w_reg ?_ | refine w_e ?_ | refine w_opk rfl rfl ?_ | refine w_ret ?_ | refine w_rt rfl ?_)
      exact ⟨0, rfl, Nat.zero_le _, fun y l e => (by cases e), fun _ => rfl, ⟨h1, (h2.step k2 fun j hj => by simp at hj; exact .inr (by omega)).step q2 fun j hj => by simp at hj; exact .inr (by omega), a, ha, q1⟩, k2.trans q2⟩
    | some y =>
      obtain ⟨m, r2⟩ := y
      rw [hd] at hv hD
      rw [hD]
      obtain ⟨rfl, hm64, hr2⟩ := hv
      obtain ⟨w1, w2⟩ := dU_drop hB.by_ ha hd
      repeat' (first | refine w_seq ?_ | refine w_reg ?_ | refine w_e ?_ | refine w_opk rfl rfl ?_)
      refine w_call rfl ((moved_ok hO hR).mono fun _ h3 ⟨e, k1, k2⟩ => ?_)
      subst e
      have E3 : Ext hb h3 := h2.step k2 fun j hj => by simp at hj; exact .inr (by omega)
      by_cases hcm : m ≤ most
      · simp only [dMap, if_pos hcm]
        repeat' (first | refine w_seq ?_ | refine w_reg ?_ | refine w_e ?_ | refine w_on rfl ?_ | refine w_gtrN rfl rfl (fun hc => ?_) (fun hc => ?_) | refine w_opq rfl rfl ?_ | refine w_cond_t rfl ?_ | refine w_cond_f rfl ?_ | refine w_skip ?_)
        all_goals first
          | exact absurd (show most < m by assumption) (by omega)
          | skip
        refine w_toI (b := .ofNat m) rfl (wrap_i64_nat (by omega)) ?_
        repeat' (first | refine w_e ?_ | refine w_opk rfl rfl ?_ | refine w_ret ?_ | refine w_rt rfl ?_)
        exact ⟨m, rfl, hcm, fun y l e => (by cases e; rfl), fun e => (by cases e), ⟨h1, E3, _, by omega, w1, k1⟩, k2⟩
      · simp only [dMap, if_neg hcm]
        repeat' (first | refine w_seq ?_ | refine w_reg ?_ | refine w_e ?_ | refine w_on rfl ?_ | refine w_gtrN rfl rfl (fun hc => ?_) (fun hc => ?_) | refine w_opq rfl rfl ?_ | refine w_cond_t rfl ?_ | refine w_cond_f rfl ?_ | refine w_skip ?_)
        all_goals first
          | exact absurd (show m ≤ most by assumption) hcm
          | skip
        refine w_store rfl rfl k1 rfl rfl (by decide) (by simp) fun h4 q1 q2 q3 => ?_
        repeat' (first | refine w_seq ?_ | refine w_reg ?_ | refine w_e ?_ | refine w_opk rfl rfl ?_ | refine w_ret ?_ | refine w_rt rfl ?_)
        exact ⟨0, rfl, Nat.zero_le _, fun y l e => (by cases e), fun _ => rfl, ⟨h1, E3.step q2 fun j hj => by simp at hj; exact .inr (by omega), _, by omega, q1⟩, k2.trans q2⟩

theorem atag_ok (hO : OffAR O) {hb h0 : Heap} {r : Nat} {b : V} {bs : List Nat} {σ : Option (List Nat)} (hB : RdB hb b bs) (ho : Ow hb 1 b (bs.map byteC)) (hs : RaSt hb h0 r b bs σ) :
    WPc tab.get O 60 [.ptr r 0 0 3] h0 (fun v h' => (∃ s, v = .str s) ∧ RaSt hb h' r b bs (rst (aft cTag.dec σ)) ∧ ExtX [r] h0 h') := by
  refine w_fn' (hO.tg _ _) rfl rfl (by simp only [c60, initV, nth] <;> rfl) ?_
  have hbl := hB.len
  cases σ with
  | none =>
    obtain ⟨h1, h2, a, ha, hR⟩ := hs
    repeat' (first | refine w_seq ?_ | refine w_reg ?_ | refine w_e ?_ | refine w_rf rfl (by assumption) (by rfl) (by rfl) (by rfl) ?_ | refine w_opk rfl rfl ?_)
    refine w_callA [b, .int .i64 (.ofNat a), .int .i64 (.ofNat 255)] rfl ((getB_ok hO.toOffGB (most := 255) (by decide) (by decide) (ho.ext0 h2) hB.by_ ha hbl).mono fun _ h1' ⟨hv, E1⟩ => ?_)
    obtain ⟨n, x, e, rfl⟩ := gotB_any hv
    repeat' (first | refine w_seq ?_ | refine w_reg ?_ | refine w_e ?_ | refine w_opk rfl rfl ?_)
    refine w_call rfl ((moved_bad hO (hR.ext0 E1) (.inl rfl)).mono fun _ h3 ⟨e, k1, k2⟩ => ?_)
    subst e
    repeat' (first | refine w_seq ?_ | refine w_reg ?_ | refine w_e ?_ | refine w_opk rfl rfl ?_ | refine w_cond_t rfl ?_ | refine w_ret ?_ | refine w_rt rfl ?_)
    exact ⟨⟨_, rfl⟩, ⟨h1, (h2.trans E1).step k2 fun j hj => by simp at hj; exact .inr (by omega), a, ha, k1⟩, (E1.mono (by simp)).trans k2⟩
  | some l =>
    obtain ⟨h1, h2, a, ha, rfl, hR⟩ := hs
    repeat' (first | refine w_seq ?_ | refine w_reg ?_ | refine w_e ?_ | refine w_rf rfl (by assumption) (by rfl) (by rfl) (by rfl) ?_ | refine w_opk rfl rfl ?_)
    refine w_callA [b, .int .i64 (.ofNat a), .int .i64 (.ofNat 255)] rfl ((getB_ok hO.toOffGB (most := 255) (by decide) (by decide) (ho.ext0 h2) hB.by_ ha hbl).mono fun _ h1' ⟨hv, E1⟩ => ?_)
    have hD : aft cTag.dec (some (bs.drop a)) = (cBlob 255 (by decide)).dec (bs.drop a) := rfl
    cases hd : (cBlob 255 (by decide)).dec (bs.drop a) with
    | none =>
      rw [hd] at hv hD
      rw [hD]
      obtain ⟨e, he, rfl⟩ := hv
      repeat' (first | refine w_seq ?_ | refine w_reg ?_ | refine w_e ?_ | refine w_opk rfl rfl ?_)
      refine w_call rfl ((moved_bad hO (hR.ext0 E1) (.inr he)).mono fun _ h3 ⟨e, k1, k2⟩ => ?_)
      subst e
      repeat' (first | refine w_seq ?_ | refine w_reg ?_ | refine w_e ?_ | refine w_opk rfl rfl ?_ | refine w_cond_t rfl ?_ | refine w_ret ?_ | refine w_rt rfl ?_)
      exact ⟨⟨_, rfl⟩, ⟨h1, (h2.trans E1).step k2 fun j hj => by simp at hj; exact .inr (by omega), a, ha, k1⟩, (E1.mono (by simp)).trans k2⟩
    | some y =>
      obtain ⟨t, r2⟩ := y
      rw [hd] at hv hD
      rw [hD]
      obtain ⟨sv, rfl, rsv, hr2, hlo⟩ := hv
      obtain ⟨_, w1⟩ := (cBlob 255 (by decide)).de _ t r2 (fun x hx => hB.by_ x (List.mem_of_mem_drop hx)) hd
      have w2 : r2 = bs.drop (bs.length - r2.length) := drop_back (p := bs.take a ++ (cBlob 255 (by decide)).enc t) (by rw [List.append_assoc, ← w1, List.take_append_drop])
      repeat' (first | refine w_seq ?_ | refine w_reg ?_ | refine w_e ?_ | refine w_opk rfl rfl ?_)
      refine w_call rfl ((moved_ok hO (hR.ext0 E1)).mono fun _ h3 ⟨e, k1, k2⟩ => ?_)
      subst e
      have hgl := (hR.ext0 E1).1
      have rsv3 := rsv.ext k2 fun id off len ver e f hv' hm => by have := hlo id (by rw [hv']; simp [slIds]); have := hR.1; simp at hm; omega
      repeat' (first | refine w_seq ?_ | refine w_reg ?_ | refine w_e ?_ | refine w_opk rfl rfl ?_ | refine w_cond_f rfl ?_ | refine w_skip ?_)
      refine w_toStr rfl rsv3 ?_
      repeat' (first | refine w_e ?_ | refine w_opk rfl rfl ?_ | refine w_ret ?_ | refine w_rt rfl ?_)
      exact ⟨⟨_, rfl⟩, ⟨h1, (h2.trans E1).step k2 fun j hj => by simp at hj; exact .inr (by omega), _, by omega, w2, k1⟩, (E1.mono (by simp)).trans k2⟩

theorem avals_ok (hO : OffAR O) {hb h0 : Heap} {r : Nat} {b : V} {bs : List Nat} {σ : Option (List Nat)} (hB : RdB hb b bs) (ho : Ow hb 1 b (bs.map byteC)) (hs : RaSt hb h0 r b bs σ) :
    WPc tab.get O 61 [.ptr r 0 0 3] h0 (fun v h' => v.one = true ∧ RaSt hb h' r b bs (rst (aft cVals.dec σ)) ∧ ExtX [r] h0 h') := by
  refine w_fn' (hO.vs _ _) rfl rfl (by simp only [c61, initV, nth] <;> rfl) ?_
  have b1 := hB.rs.one
  have hml : (bs.map byteC).length = bs.length := List.length_map ..
  have hbl := hB.len
  repeat' (first | refine w_seq ?_ | refine w_reg ?_ | refine w_e ?_ | refine w_opk rfl rfl ?_)
  refine w_callA [.ptr r 0 0 3, .int .u64 (.ofNat 255)] rfl ((acount_ok hO hB hs (most := 255) (by decide) (by decide)).mono fun _ h1 ⟨n0, e, ln0, p1, p0, s1, x1⟩ => ?_)
  subst e
  have m1 := x1.1
  have hT := cList_aft cVal (by decide) p1
  have hrd : aft (cList cVal 255 (by decide)).dec σ = aft cVals.dec σ := rfl
  rw [hrd] at hT
  generalize hTT : aft cVals.dec σ = total at *
  repeat' (first | refine w_e ?_ | refine w_opk rfl rfl ?_)
  refine w_block_cut (fun vs h => ∃ b1 b2 b3 b4 b5 b6 b8 tv lc, vs = [.ptr r 0 0 3, b1, b2, b3, b4, b5, b6, tv, b8] ∧ Ow h 4 tv lc ∧ RaSt hb h r b bs (rst total) ∧ ExtX [r] h1 h)
    (w_loop (fun m vs h => ∃ b1 b3 b4 b5 b6 b8 tv lc τ, vs = [.ptr r 0 0 3, b1, .int .i64 (.ofNat m), b3, b4, b5, b6, tv, b8] ∧ Ow h 4 tv lc ∧ lc.length + m ≤ 255 ∧ (∀ j ∈ slIds tv, h1.n ≤ j) ∧ RaSt hb h r b bs τ ∧ ExtX [r] h1 h ∧ (τ = none → rst total = none) ∧ ∀ l0, τ = some l0 → rst total = rst (dRep cVal.dec m l0)) ?_ n0 _ _
      ⟨_, _, _, _, _, _, .nils, [], _, rfl, Ow.nils _ _, by simpa using ln0, by simp [slIds], s1, ExtX.refl _ _, ?_, ?_⟩) ?_
  · rintro m vs h ⟨c1, b3, b4, b5, b6, b8, tv, lc, τ, rfl, hO', hlc, hids, s, X, t1, t2⟩
    cases τ with
    | none =>
      have s' := s
      obtain ⟨_, _, a, ha, hR⟩ := s'
      have ht := t1 rfl
      repeat' (first | refine w_seq ?_ | refine w_reg ?_ | refine w_e ?_ | refine w_off rfl ?_ | refine w_rfg rfl rfl (by assumption) (by rfl) (by rfl) (by rfl) (by rfl) ?_ | refine w_on rfl ?_ | refine w_gtrN rfl rfl (fun hc => ?_) (fun hc => ?_) | refine w_opk rfl rfl ?_ | refine w_cond_f rfl ?_ | refine w_exit rfl ?_)
      all_goals exact ⟨_, _, _, _, _, _, _, tv, lc, rfl, hO', ht ▸ s, X⟩
    | some l =>
      have hT2 := t2 l rfl
      have s' := s
      obtain ⟨hbr, hE, a, ha, hl, hR⟩ := s'
      repeat' (first | refine w_seq ?_ | refine w_reg ?_ | refine w_e ?_ | refine w_off rfl ?_ | refine w_rfg rfl rfl (by assumption) (by rfl) (by rfl) (by rfl) (by rfl) ?_ | refine w_on rfl ?_ | refine w_gtrN rfl rfl (fun hc => ?_) (fun hc => ?_) | refine w_opk rfl rfl ?_ | refine w_cond_t rfl ?_ | refine w_cond_f rfl ?_ | refine w_skip ?_ | refine w_exit rfl ?_)
      · have hm0 : 0 < m := by assumption
        obtain ⟨m, rfl⟩ : ∃ j, m = j + 1 := ⟨m - 1, by omega⟩
        have hrl := hR.1
        refine w_block ?_
        repeat' (first | refine w_seq ?_ | refine w_reg ?_ | refine w_rf rfl (by assumption) (by rfl) (by rfl) (by rfl) ?_ | refine w_opk rfl rfl ?_)
        refine w_alloc fun i8 h3 h8o hi8 hE3 => ?_
        refine w_snapP rfl h8o ?_
        have e3 := hE.trans hE3
        refine w_call rfl ((vget_ok hO.toOffGV ⟨hB.rs.ext0 e3, hB.by_, hB.len⟩ (ho.ext0 e3) ha).mono fun _ h4 ⟨⟨c, hc4, hc1, hv⟩, hE4⟩ => ?_)
        have h84 := h8o.ext0 hE4
        refine w_chkObjP rfl rfl h84 ?_
        have hm4 := hE4.1
        have hm3 := hE3.1
        have h8l := h8o.1
        have hR4 := (hR.ext0 hE3).ext0 hE4
        have hO4 := (hO'.ext0 hE3).ext0 hE4
        have X4 : ExtX [r] h1 h4 := X.trans ((hE3.trans hE4).mono (by simp))
        rw [← hl] at hv
        have hsv := rst_val l
        have hRep := rst_rep (d := cVal.dec) (m := m) (l := l)
        rw [hsv] at hRep
        cases hd : rst3 (decV 16 256 l) with
        | none =>
          rw [hd] at hv hRep
          obtain ⟨e, he, rfl⟩ := hv
          repeat' (first | refine w_opk rfl rfl ?_)
          refine w_store rfl rfl h84 hc4 hc1 (by decide) (by simp) fun h5 q1 q2 q3 => ?_
          have hR5 := hR4.ext q2 (by simp; omega)
          have hO5 := hO4.ext q2 fun j hj e => by simp at e; have := hO'.rs.lt j hj; omega
          have X5 : ExtX [r] h1 h5 := X4.step q2 fun j hj => by simp at hj; have := X.1; exact .inr (by omega)
          repeat' (first | refine w_seq ?_ | refine w_reg ?_ | refine w_e ?_ | refine w_opk rfl rfl ?_)
          refine w_call rfl ((moved_bad hO hR5 (.inr he)).mono fun _ h6 ⟨e, k1, k2⟩ => ?_)
          subst e
          have hO6 := hO5.ext k2 fun j hj e => by simp at e; have := hids j hj; have := s1.base.2.2; omega
          repeat' (first | refine w_reg ?_ | refine w_e ?_ | refine w_opq rfl rfl ?_ | refine w_cond_f rfl ?_ | refine w_skip ?_)
          refine w_subN (b := 1) rfl (by rfl) (by omega) (by omega) ?_
          repeat' (first | refine w_e ?_ | refine w_opq rfl rfl ?_)
          exact ⟨m, by omega, _, _, _, _, _, _, tv, lc, none, rfl, hO6, by omega, hids, ⟨hbr, ((e3.trans hE4).step q2 fun j hj => by simp at hj; have := hE.1; exact .inr (by omega)).step k2 fun j hj => by simp at hj; exact .inr (by omega), a, ha, k1⟩, X5.trans k2, (fun _ => by rw [hT2, hRep]), fun l0 e => by cases e⟩
        | some y =>
          obtain ⟨_, r2⟩ := y
          rw [hd] at hv hRep
          obtain ⟨rfl, hr2⟩ := hv
          repeat' (first | refine w_opk rfl rfl ?_)
          refine w_store rfl rfl h84 hc4 hc1 (by decide) (by simp) fun h5 q1 q2 q3 => ?_
          replace q1 : Own h5 i8 c := by
            rwa [show splice _ 0 (V.agg c).cells = c from by rw [splice]; exact over_all hc4] at q1
          have hR5 := hR4.ext q2 (by simp; omega)
          have hO5 := hO4.ext q2 fun j hj e => by simp at e; have := hO'.rs.lt j hj; omega
          have X5 : ExtX [r] h1 h5 := X4.step q2 fun j hj => by simp at hj; have := X.1; exact .inr (by omega)
          repeat' (first | refine w_seq ?_ | refine w_reg ?_ | refine w_e ?_ | refine w_opk rfl rfl ?_)
          refine w_call rfl ((moved_ok hO hR5).mono fun _ h6 ⟨e, k1, k2⟩ => ?_)
          subst e
          have hO6 := hO5.ext k2 fun j hj e => by simp at e; have := hids j hj; have := s1.base.2.2; omega
          have h86 := q1.ext k2 (by simp; omega)
          repeat' (first | refine w_reg ?_ | refine w_e ?_ | refine w_opk rfl rfl ?_ | refine w_cond_t rfl ?_)
          refine w_loadA rfl (h86.at hc4) (by rw [hc4]; rfl) ?_
          rw [List.take_of_length_le (by omega)]
          refine w_push rfl hc4 rfl hc1 (fun _ => rfl) hO6 (by omega) fun aa tv' h7 hv' hf' => ?_
          have k7 := k1.ext hf'.1 fun e => by have := hids r e; have := s1.base.2.2; omega
          have m6 := k2.1
          have m5 := q2.1
          have mX := X.1
          have w2 : r2 = bs.drop (bs.length - r2.length) := by
            cases hdd : decV 16 256 l with
            | none => rw [hdd] at hd; cases hd
            | some z =>
              obtain ⟨v, n', r'⟩ := z
              rw [hdd] at hd
              cases hd
              obtain ⟨_, _, w1⟩ := decV_dec 16 256 l v _ r2 (by rw [hl]; exact fun x hx => hB.by_ x (List.mem_of_mem_drop hx)) hdd
              exact drop_back (p := bs.take a ++ encV v) (by rw [List.append_assoc, ← w1, hl, List.take_append_drop])
          repeat' (first | refine w_reg ?_ | refine w_e ?_ | refine w_opq rfl rfl ?_)
          refine w_subN (b := 1) rfl (by rfl) (by omega) (by omega) ?_
          repeat' (first | refine w_e ?_ | refine w_opq rfl rfl ?_)
          refine ⟨m, by omega, _, _, _, _, _, _, tv', lc ++ [c], some r2, rfl, hv', by simp; omega, fun j hj => ?_, ⟨hbr, ?_, _, by omega, w2, k7⟩, ?_, (fun e => by cases e), fun l0 e => by cases e; rw [hT2, hRep]⟩
          · rcases hf'.2 j hj with e | e
            · exact hids j e
            · omega
          · exact ((((e3.trans hE4).step q2 fun j hj => by simp at hj; have := hE.1; exact .inr (by omega)).step k2 fun j hj => by simp at hj; exact .inr (by omega))).step hf'.1 fun j hj => by have := hids j hj; have := hE.1; exact .inr (by have := s1.base; omega)
          · exact (X5.trans k2).step hf'.1 fun j hj => .inr (hids j hj)
      · have hm0 : m = 0 := by
          have : m ≤ 0 := by assumption
          omega
        subst hm0
        have hT3 : rst total = some l := hT2
        exact ⟨_, _, _, _, _, _, _, tv, lc, rfl, hO', hT3 ▸ s, X⟩
  · intro e
    rw [hT]
    cases hq : aft (cNum 255 (by decide)).dec σ with
    | none => rfl
    | some y => rw [hq] at e; cases e
  · intro l0 e
    rw [hT]
    cases hq : aft (cNum 255 (by decide)).dec σ with
    | none => rw [hq] at e; cases e
    | some y =>
      obtain ⟨x, l1⟩ := y
      rw [hq] at e
      cases e
      rfl
  · rintro vs h ⟨c1, b2, b3, b4, b5, b6, b8, tv, lc, rfl, hO', s, X⟩
    repeat' (first | refine w_seq ?_ | refine w_reg ?_ | refine w_e ?_ | refine w_opk rfl rfl ?_ | refine w_ret ?_ | refine w_rt rfl ?_)
    exact ⟨hO'.rs.one, s, x1.trans X⟩
end AmT
