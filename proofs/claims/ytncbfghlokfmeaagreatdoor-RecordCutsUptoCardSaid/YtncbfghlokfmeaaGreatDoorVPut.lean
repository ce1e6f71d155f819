/-
  value.put: a right value's bytes. Conditions: the value is right; not too much is written.
-/
import Derived.Test.YtncbfghlokfmeaaGreatDoorEncI
namespace AmT
open Go Am
set_option maxRecDepth 100000
set_option maxHeartbeats 8000000
set_option linter.unusedSimpArgs false
set_option linter.unusedVariables false
variable {O : CallF}

structure OffVP (O : CallF) : Prop where
  u : ∀ a h, O 53 a h = none
  i : ∀ a h, O 57 a h = none
  bl : ∀ a h, O 56 a h = none
  pt : ∀ a h, O 95 a h = none

theorem blob_ok (hO : OffVP O) {h0 : Heap} {out sv : V} {l m : List Nat} (ho : Ow h0 1 out (l.map byteC)) (hs : RS h0 1 sv (m.map byteC)) (ha : ∀ j ∈ slIds sv, j ∉ slIds out) (hr : l.length + m.length ≤ 3999999990) :
    WPc tab.get O 56 [out, sv] h0 (fun v h' => Ow h' 1 v ((l ++ (encU 9 m.length ++ m)).map byteC) ∧ Fr h0 out h' v) := by
  refine w_fn' (hO.bl _ _) rfl rfl (by simp only [c56, initV, nth] <;> rfl) ?_
  repeat' (first | refine w_seq ?_ | refine w_reg ?_ | refine w_e ?_ | refine w_len rfl (by assumption) ?_ | refine w_opq rfl rfl ?_)
  have hml : (m.map byteC).length = m.length := List.length_map ..
  have hlu := encU_10 m.length
  refine w_toI (b := .ofNat m.length) rfl (by rw [hml, wrap_u64]; show ((m.length : Nat) : Int) % _ = ((m.length : Nat) : Int); omega) ?_
  refine w_call rfl ((enc_ok hO.u rfl (by omega) ho (by omega)).mono fun bv h1 ⟨t1, t2⟩ => ?_)
  have hs1 := hs.ext t2.1 fun id off len ver e f hv hm => ha id (by rw [hv]; simp [slIds]) hm
  repeat' (first | refine w_opq rfl rfl ?_)
  refine w_app rfl rfl t1 hs1 (by simp only [List.length_map, List.length_append]; omega) fun v h2 u1 u2 => ?_
  repeat' (first | refine w_e ?_ | refine w_opk rfl rfl ?_ | refine w_ret ?_ | refine w_rt rfl ?_)
  rw [← List.map_append, List.append_assoc] at u1
  exact ⟨u1, t2.trans u2⟩

theorem xor_ones {k : Nat} (h : k < 18446744073709551616) : k ^^^ 18446744073709551615 = 18446744073709551615 - k := by
  have h1 := congrArg BitVec.toNat (BitVec.xor_allOnes (x := BitVec.ofNat 64 k))
  rw [BitVec.toNat_xor, BitVec.toNat_not, BitVec.toNat_allOnes, BitVec.toNat_ofNat, Nat.mod_eq_of_lt (by simpa using h)] at h1
  simpa using h1
theorem zig_all {e : Int} (h : -9223372036854775808 ≤ e) (h2 : e < 9223372036854775808) : zigN e = zig e := by
  unfold zigN zig
  by_cases h0 : e < 0
  · rw [if_pos h0]
    have e1 : IntKind.u64.wrap (IntKind.u64.wrap e * 2 ^ 1) = Int.ofNat (18446744073709551616 + 2 * e).toNat := by
      rw [wrap_u64, wrap_u64]
      show _ = (((18446744073709551616 + 2 * e).toNat : Nat) : Int)
      omega
    have e2 : IntKind.u64.wrap (e.fdiv (2 ^ 63)) = Int.ofNat 18446744073709551615 := by
      rw [Int.fdiv_eq_ediv_of_nonneg _ (by decide), wrap_u64]
      show _ = ((18446744073709551615 : Nat) : Int)
      omega
    rw [e1, e2, bits_xor64 (by omega) (by decide), xor_ones (by omega)]
    show 18446744073709551615 - (18446744073709551616 + 2 * e).toNat = _
    omega
  · obtain ⟨n, rfl⟩ := Int.eq_ofNat_of_zero_le (show 0 ≤ e by omega)
    rw [if_neg h0]
    have e1 : IntKind.u64.wrap (IntKind.u64.wrap (n : Int) * 2 ^ 1) = Int.ofNat (2 * n) := by
      rw [wrap_u64, wrap_u64]
      show _ = ((2 * n : Nat) : Int)
      omega
    have e2 : IntKind.u64.wrap ((n : Int).fdiv (2 ^ 63)) = Int.ofNat 0 := by
      rw [Int.fdiv_eq_ediv_of_nonneg _ (by decide), wrap_u64]
      show _ = ((0 : Nat) : Int)
      omega
    rw [e1, e2, bits_xor64 (by omega) (by decide), Nat.xor_zero]
    show 2 * n = _
    omega

theorem bytesV_flat (s : List UInt8) : bytesV s = ((s.map UInt8.toNat).map byteC).flatten := by
  induction s with
  | nil => rfl
  | cons x s ih => simp only [List.map_cons, List.flatten_cons, ← ih]; rfl
theorem w_toBytes {T : Nat → Option AFunc} {vs ls : List V} {h : Heap} {Q : List V → Heap → Prop} {os : List AOp} {x : Opd} {s : List UInt8} (hx : ev ls vs x = some (.str s))
    (k1 : ∀ v' h', Ow h' 1 v' ((s.map UInt8.toNat).map byteC) → Fr h .nils h' v' → WPo T O os (v' :: ls) vs h' Q) : WPo T O (⟨none, .toBytes x⟩ :: os) ls vs h Q := by
  have hn : ((s.map UInt8.toNat).map byteC).length = s.length := by rw [List.length_map, List.length_map]
  have ho := Ow.new (h := h) (esz := 1) (l := (s.map UInt8.toNat).map byteC) (fun c hc => by obtain ⟨y, _, rfl⟩ := List.mem_map.1 hc; rfl) false
  rw [hn, ← bytesV_flat] at ho
  refine w_op (v := .sl h.n 0 s.length 0 1 false) (h1 := h.alloc (.cells (bytesV s) 0 big)) ?_ (k1 _ _ ho ⟨ExtX.alloc _ _, fun j hj => by simp [slIds] at hj; exact .inr (by omega)⟩)
  show o_toBytes x ls vs h = _
  simp only [o_toBytes, hx]

theorem vput_plain (hO : OffVP O) {Z : Nat → Prop} {k n : Int} {s : List UInt8} {l : List Val} {h0 : Heap} {c : List V} {out : V} {w : List Nat} {lv : Nat} (hv : VaR Z h0 (.mk k n s l) c) (hk : okV lv (.mk k n s l)) (hk4 : k ≠ 4) (ho : Ow h0 1 out (w.map byteC)) (hr : w.length + (encV (.mk k n s l)).length ≤ 3999999000) :
    WPc tab.get O 95 [out, .agg c] h0 (fun v h' => Ow h' 1 v ((w ++ encV (.mk k n s l)).map byteC) ∧ Fr h0 out h' v) := by
  refine w_fn' (hO.pt _ _) rfl rfl (by simp only [c95, initV, nth] <;> rfl) ?_
  have hs := hv.shape
  refine w_seq (w_reg (w_box rfl hs.1 hs.2 fun i3 h1 hB hiB hE1 => ?_))
  replace hB : Own h1 i3 c := hB
  replace hv := hv.ext0 hE1
  have ho1 := ho.ext0 hE1
  unfold VaR at hv
  obtain ⟨tv, lc, rfl, rt, hl2⟩ := hv
  have r1 := rt.1
  unfold okV at hk
  have hk0 : 0 ≤ k := by rcases hk.2 with ⟨h, _⟩ | ⟨h, _⟩ | ⟨h, _⟩ | ⟨h, _⟩ | ⟨h, _⟩ <;> omega
  have hen : encV (.mk k n s l) = k.toNat :: (if k = 2 then [n.toNat] else if k = 3 then encU 9 s.length ++ s.map UInt8.toNat else if k = 4 then encU 9 l.length ++ encVs l else encU 9 (zig n)) := by
    unfold encV; rfl
  rw [hen] at hr ⊢
  simp only [List.length_cons] at hr
  have hol := ho.rs.lt
  repeat' (first | refine w_seq ?_ | refine w_reg ?_ | refine w_e ?_ | refine w_rf rfl (by assumption) (by rfl) (by rfl) (by rfl) ?_ | refine w_opq rfl rfl ?_)
  refine w_bslice (ps := [(0, 1, .int .u8 k)]) (cs := [.int .u8 k]) [[.int .u8 k]] rfl rfl rfl rfl (by simp) fun lv1 h2 o1 f1 => ?_
  refine w_app rfl rfl (ho1.ext0 f1.ext0) o1.rs (by simp only [List.length_map, List.length_cons, List.length_nil]; omega) fun v2 h3 u1 u2 => ?_
  have hB3 := (hB.ext0 f1.ext0).ext u2.1 (fun e => by have := hol i3 e; omega)
  have hF3 : Fr h0 out h3 v2 := ((Fr.of_ext out hE1).trans (Fr.of_ext out f1.ext0)).trans u2
  have hby : (w.map byteC ++ [[V.int .u8 k]]) = (w ++ [k.toNat]).map byteC := by
    rw [List.map_append, List.map_cons, List.map_nil, byteC_of hk0]
  rw [hby] at u1
  have hap : ∀ r : List Nat, w ++ k.toNat :: r = (w ++ [k.toNat]) ++ r := fun r => by simp
  rw [hap]
  have hlen2 : (w ++ [k.toNat]).length = w.length + 1 := by simp
  clear hE1 hB ho1 o1 f1 u2
  rcases hk.2 with ⟨rfl, h1, h2, rfl, rfl⟩ | ⟨rfl, h1, rfl, rfl⟩ | ⟨rfl, rfl, h1, rfl⟩ | ⟨rfl, _⟩ | ⟨rfl, h1, h2, rfl, rfl⟩
  · simp only [show ¬ ((1 : Int) = 2) by decide, show ¬ ((1 : Int) = 3) by decide, show ¬ ((1 : Int) = 4) by decide, if_false] at hr ⊢
    repeat' (first | refine w_seq ?_ | refine w_reg ?_ | refine w_e ?_ | refine w_rf rfl (by assumption) (by rfl) (by rfl) (by rfl) ?_ | refine w_opk rfl rfl ?_)
    refine w_block ?_
    repeat' (first | refine w_seq ?_ | refine w_reg ?_ | refine w_e ?_ | refine w_rf rfl (by assumption) (by rfl) (by rfl) (by rfl) ?_ | refine w_opk rfl rfl ?_ | refine w_cond_f rfl ?_ | refine w_skip ?_)
    refine w_call rfl ((int_ok hO.u hO.i u1 (by omega)).mono fun v4 h4 ⟨t1, t2⟩ => ?_)
    repeat' (first | refine w_e ?_ | refine w_opk rfl rfl ?_ | refine w_ret ?_ | refine w_rt rfl ?_)
    rw [zig_all h1 h2] at t1
    exact ⟨t1, hF3.trans t2⟩
  · have hby2 : ∀ x : Int, 0 ≤ x → ((w ++ [Int.toNat 2]).map byteC ++ [[V.int .u8 x]]) = ((w ++ [Int.toNat 2]) ++ [x.toNat]).map byteC := fun x hx => by
      rw [List.map_append (l₂ := [x.toNat]), List.map_cons, List.map_nil, byteC_of hx]
    have hw8 : IntKind.u8.wrap n = n := by rw [wrap_u8]; omega
    simp only [if_true] at hr ⊢
    repeat' (first | refine w_seq ?_ | refine w_reg ?_ | refine w_e ?_ | refine w_rf rfl (by assumption) (by rfl) (by rfl) (by rfl) ?_ | refine w_opk rfl rfl ?_)
    refine w_block ?_
    repeat' (first | refine w_seq ?_ | refine w_reg ?_ | refine w_e ?_ | refine w_rf rfl (by assumption) (by rfl) (by rfl) (by rfl) ?_ | refine w_opk rfl rfl ?_ | refine w_cond_t rfl ?_)
    rw [hw8]
    refine w_bslice (ps := [(0, 1, .int .u8 n)]) (cs := [.int .u8 n]) [[.int .u8 n]] rfl rfl rfl rfl (by simp) fun lv4 h4 o4 f4 => ?_
    refine w_app rfl rfl (u1.ext0 f4.ext0) o4.rs (by simp only [List.length_map, List.length_cons, List.length_nil]; omega) fun v5 h5 t1 t2 => ?_
    rw [hby2 n (by omega)] at t1
    repeat' (first | refine w_e ?_ | refine w_opk rfl rfl ?_ | refine w_ret ?_ | refine w_rt rfl ?_)
    exact ⟨t1, (hF3.trans (Fr.of_ext v2 f4.ext0)).trans t2⟩
  · simp only [show ¬ ((3 : Int) = 2) by decide, if_true, if_false] at hr ⊢
    repeat' (first | refine w_seq ?_ | refine w_reg ?_ | refine w_e ?_ | refine w_rf rfl (by assumption) (by rfl) (by rfl) (by rfl) ?_ | refine w_opk rfl rfl ?_)
    refine w_block ?_
    repeat' (first | refine w_seq ?_ | refine w_reg ?_ | refine w_e ?_ | refine w_rf rfl (by assumption) (by rfl) (by rfl) (by rfl) ?_ | refine w_opk rfl rfl ?_ | refine w_cond_t rfl ?_ | refine w_cond_f rfl ?_)
    refine w_toBytes rfl fun sv h4 o4 f4 => ?_
    have hso : ∀ j ∈ slIds sv, j ∉ slIds v2 := fun j hj hm => by
      have := (f4.2 j hj).resolve_left (by simp [slIds])
      have := u1.rs.lt j hm
      omega
    refine w_call rfl ((blob_ok hO (u1.ext0 f4.ext0) o4.rs hso (by rw [List.length_append] at hr; have := (encU_len 9 s.length).1; omega)).mono fun v5 h5 ⟨t1, t2⟩ => ?_)
    rw [List.length_map] at t1
    repeat' (first | refine w_e ?_ | refine w_opk rfl rfl ?_ | refine w_ret ?_ | refine w_rt rfl ?_)
    exact ⟨t1, (hF3.trans (Fr.of_ext v2 f4.ext0)).trans t2⟩
  · exact absurd rfl hk4
  · simp only [show ¬ ((5 : Int) = 2) by decide, show ¬ ((5 : Int) = 3) by decide, show ¬ ((5 : Int) = 4) by decide, if_false] at hr ⊢
    repeat' (first | refine w_seq ?_ | refine w_reg ?_ | refine w_e ?_ | refine w_rf rfl (by assumption) (by rfl) (by rfl) (by rfl) ?_ | refine w_opk rfl rfl ?_)
    refine w_block ?_
    repeat' (first | refine w_seq ?_ | refine w_reg ?_ | refine w_e ?_ | refine w_rf rfl (by assumption) (by rfl) (by rfl) (by rfl) ?_ | refine w_opk rfl rfl ?_ | refine w_cond_f rfl ?_ | refine w_skip ?_)
    refine w_call rfl ((int_ok hO.u hO.i u1 (by omega)).mono fun v4 h4 ⟨t1, t2⟩ => ?_)
    repeat' (first | refine w_e ?_ | refine w_opk rfl rfl ?_ | refine w_ret ?_ | refine w_rt rfl ?_)
    rw [zig_all (by omega) h2] at t1
    exact ⟨t1, hF3.trans t2⟩
end AmT
