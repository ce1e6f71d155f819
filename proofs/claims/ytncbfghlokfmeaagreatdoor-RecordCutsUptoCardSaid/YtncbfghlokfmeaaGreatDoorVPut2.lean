/-
  value.put: any right value's bytes. Conditions: the value is right; not too much is written; the value lies apart from what is written.
-/
import Derived.Test.YtncbfghlokfmeaaGreatDoorVPut
namespace AmT
open Go Am
set_option maxRecDepth 100000
set_option maxHeartbeats 8000000
set_option linter.unusedSimpArgs false
set_option linter.unusedVariables false
variable {O : CallF}

theorem encVs_snoc {a : Val} : ∀ {l : List Val}, encVs (l ++ [a]) = encVs l ++ encV a
  | [] => by simp only [List.nil_append, encVs, List.append_nil]
  | b :: l => by simp only [List.cons_append, encVs, encVs_snoc, List.append_assoc]
theorem encVs_split {l : List Val} {j : Nat} (hj : j < l.length) : (encVs (l.take j)).length + (encV l[j]).length ≤ (encVs l).length := by
  have h1 : ∀ a b : List Val, encVs (a ++ b) = encVs a ++ encVs b := fun a b => by
    induction a with
    | nil => rfl
    | cons x a ih => simp only [List.cons_append, encVs, ih, List.append_assoc]
  have h2 : l = l.take j ++ l[j] :: l.drop (j + 1) := by rw [← List.drop_eq_getElem_cons hj, List.take_append_drop]
  have h3 := congrArg (fun l => (encVs l).length) h2
  simp only [h1, encVs, List.length_append] at h3
  omega
theorem okVs_get {lv : Nat} : ∀ {l : List Val}, okVs lv l → ∀ a ∈ l, okV lv a
  | [], _, a, h => by cases h
  | b :: l, k, a, h => by
    unfold okVs at k
    rcases List.mem_cons.1 h with rfl | h
    · exact k.1
    · exact okVs_get k.2 a h

theorem pcss_mem : ∀ {l : List Val} {a : Val}, a ∈ l → pcs a ≤ pcss l
  | [], a, h => by cases h
  | b :: l, a, h => by
    unfold pcss
    rcases List.mem_cons.1 h with rfl | h
    · omega
    · have := pcss_mem h; omega

theorem vput_tuple (hO : OffVP O) {Z : Nat → Prop} {n : Int} {s : List UInt8} {l : List Val} {h0 : Heap} {c : List V} {out : V} {w : List Nat} {lv : Nat} (hv : VaR Z h0 (.mk 4 n s l) c) (hk : okVs lv l) (hp : pcss l ≤ 256) (hZ : ∀ i, Z i → i < h0.n ∧ i ∉ slIds out) (ho : Ow h0 1 out (w.map byteC)) (hr : w.length + (encV (.mk 4 n s l)).length ≤ 3999999000)
    (ih : ∀ a ∈ l, ∀ {h1 : Heap} {c : List V} {out : V} {w : List Nat}, VaR Z h1 a c → (∀ i, Z i → i < h1.n ∧ i ∉ slIds out) → okV lv a → pcs a ≤ 256 → Ow h1 1 out (w.map byteC) → w.length + (encV a).length ≤ 3999999000 → WPc tab.get O 95 [out, .agg c] h1 (fun v h' => Ow h' 1 v ((w ++ encV a).map byteC) ∧ Fr h1 out h' v)) :
    WPc tab.get O 95 [out, .agg c] h0 (fun v h' => Ow h' 1 v ((w ++ encV (.mk 4 n s l)).map byteC) ∧ Fr h0 out h' v) := by
  refine w_fn' (hO.pt _ _) rfl rfl (by simp only [c95, initV, nth] <;> rfl) ?_
  have hs := hv.shape
  have hl := pcss_len l
  refine w_seq (w_reg (w_box rfl hs.1 hs.2 fun i3 h1 hB hiB hE1 => ?_))
  replace hB : Own h1 i3 c := hB
  replace hv := hv.ext0 hE1
  have ho1 := ho.ext0 hE1
  unfold VaR at hv
  obtain ⟨tv, lc, rfl, rt, hl2⟩ := hv
  have r1 := rt.1
  have hlen := hl2.len
  have hen : encV (.mk 4 n s l) = 4 :: (encU 9 l.length ++ encVs l) := by
    unfold encV; rfl
  rw [hen] at hr ⊢
  simp only [List.length_cons, List.length_append] at hr
  have hol := ho.rs.lt
  repeat' (first | refine w_seq ?_ | refine w_reg ?_ | refine w_e ?_ | refine w_rf rfl (by assumption) (by rfl) (by rfl) (by rfl) ?_ | refine w_opq rfl rfl ?_)
  refine w_bslice (ps := [(0, 1, .int .u8 4)]) (cs := [.int .u8 4]) [[.int .u8 4]] rfl rfl rfl rfl (by simp) fun lv1 h2 o1 f1 => ?_
  refine w_app rfl rfl (ho1.ext0 f1.ext0) o1.rs (by simp only [List.length_map, List.length_cons, List.length_nil]; omega) fun v2 h3 u1 u2 => ?_
  have hB3 := (hB.ext0 f1.ext0).ext u2.1 (fun e => by have := hol i3 e; omega)
  have hF3 : Fr h0 out h3 v2 := ((Fr.of_ext out hE1).trans (Fr.of_ext out f1.ext0)).trans u2
  have r3 := (r1.ext0 f1.ext0).ext u2.1 fun id off len ver e f hv hm => (hZ id (rt.2 id (by rw [hv]; simp [slIds]))).2 hm
  have hby : (w.map byteC ++ [[V.int .u8 4]]) = (w ++ [4]).map byteC := by
    rw [List.map_append, List.map_cons, List.map_nil]; rfl
  rw [hby] at u1
  have hlen2 : (w ++ [4]).length = w.length + 1 := by simp
  repeat' (first | refine w_seq ?_ | refine w_reg ?_ | refine w_e ?_ | refine w_rf rfl (by assumption) (by rfl) (by rfl) (by rfl) ?_ | refine w_opk rfl rfl ?_)
  refine w_block ?_
  repeat' (first | refine w_seq ?_ | refine w_reg ?_ | refine w_e ?_ | refine w_rf rfl (by assumption) (by rfl) (by rfl) (by rfl) ?_ | refine w_len rfl (by assumption) ?_ | refine w_opk rfl rfl ?_ | refine w_cond_t rfl ?_ | refine w_cond_f rfl ?_)
  have hwr : IntKind.u64.wrap (Int.ofNat lc.length) = Int.ofNat l.length := by
    rw [hlen, wrap_u64]; show ((l.length : Nat) : Int) % _ = ((l.length : Nat) : Int); omega
  rw [hwr]
  have hu := encU_10 l.length
  have hi2 := (hB.ext0 f1.ext0).1
  have hv2 : i3 ∉ slIds v2 := fun e => by
    rcases u2.2 i3 e with e | e
    · have := hol i3 e; omega
    · omega
  refine w_call rfl ((enc_ok hO.u rfl (by omega) u1 (by omega)).mono fun v4 h4 ⟨t1, t2⟩ => ?_)
  have hB4 := hB3.ext t2.1 hv2
  have hF4 := hF3.trans t2
  have hZF : ∀ {h : Heap} {v : V}, Fr h0 out h v → ∀ i, Z i → i < h.n ∧ i ∉ slIds v := fun F i hz => ⟨by have := F.1.1; have := (hZ i hz).1; omega, fun hm => (F.2 i hm).elim (hZ i hz).2 (fun e => by have := (hZ i hz).1; omega)⟩
  have r4 := r3.ext t2.1 fun id off len ver e f hv hm => (hZF hF3 id (rt.2 id (by rw [hv]; simp [slIds]))).2 hm
  have hz5 : ∀ i, Z i → i ∉ slIds v2 := fun i z => (hZF hF3 i z).2
  have hz6 : ∀ i, Z i → i ∉ slIds out := fun i z => (hZ i z).2
  have va3 : VasR Z h4 l lc := ((hl2.ext0 f1.ext0).ext (Z' := Z) u2.1 hz6 fun _ z _ => z).ext t2.1 hz5 fun _ z _ => z
  clear hB3 hB ho1 r1 u1 u2 t2 hby
  repeat' (first | refine w_seq ?_ | refine w_reg ?_ | refine w_e ?_ | refine w_rf rfl (by assumption) (by rfl) (by rfl) (by rfl) ?_ | refine w_len rfl (by assumption) ?_ | refine w_opk rfl rfl ?_)
  refine w_count (fun j vs h => ∃ v c1 c5 c6 c7 c10 c12, vs = [v, c1, .nils, .ptr i3 0 0 4, .int .u8 4, c5, c6, c7, .int .i64 (.ofNat j), .int .i64 (.ofNat lc.length), c10, tv, c12] ∧ Ow h 1 v ((w ++ [4] ++ encU 9 l.length ++ encVs (l.take j)).map byteC) ∧ Fr h0 out h v ∧ Fr h4 v4 h v) lc.length ⟨_, _, _, _, _, _, _, rfl, by simpa [encVs] using t1, hF4, Fr.refl _ _⟩ ?_
  rintro j vs h hj ⟨v, c1, c5, c6, c7, c10, c12, rfl, k1, k2, k3⟩
  have r8 := r4.ext k3.1 fun id off len ver e f hv hm => (hZF hF4 id (rt.2 id (by rw [hv]; simp [slIds]))).2 hm
  repeat' (first | refine w_seq ?_ | refine w_reg ?_ | refine w_e ?_ | refine w_lssN rfl rfl (fun hc => ?_) (fun hc => ?_) | refine w_opk rfl rfl ?_ | refine w_cond_t rfl ?_ | refine w_cond_f rfl ?_ | refine w_skip ?_ | refine w_exit rfl ?_ | refine w_ret ?_ | refine w_rt rfl ?_)
  · have hj1 : j < lc.length := by assumption
    have hj2 : j < l.length := by omega
    have va8 : VaR Z h l[j] lc[j] := (va3.get hj2 hj1).ext k3.1 (fun i z => (hZF hF4 i z).2) fun _ z _ => z
    have hsh := va8.shape
    have hsp := encVs_split hj2
    refine w_block ?_
    repeat' (first | refine w_seq ?_ | refine w_reg ?_)
    refine w_iadrS rfl rfl r8 hj1 ?_
    refine w_loadA rfl (slot_at r8 hj1) (by rw [hsh.1]; rfl) ?_
    rw [show List.take 4 lc[j] = lc[j] from List.take_of_length_le (by omega)]
    refine w_new (fun p => rfl) hsh.1 rfl hsh.2 fun iX h9 hX hiX hE9 => ?_
    replace hX : Own h9 iX lc[j] := hX
    repeat' (first | refine w_reg ?_ | refine w_e ?_ | refine w_opk rfl rfl ?_)
    refine w_loadA rfl (hX.at hsh.1) (by show Nat.ble 4 lc[j].length = true; rw [hsh.1]; rfl) ?_
    rw [show List.take 4 lc[j] = lc[j] from List.take_of_length_le (by omega)]
    have hFe := Fr.of_ext v hE9
    refine w_call rfl ((ih _ (List.getElem_mem hj2) (va8.ext0 hE9) (hZF (k2.trans hFe)) (okVs_get hk _ (List.getElem_mem hj2)) (by have := pcss_mem (List.getElem_mem hj2); omega) (k1.ext0 hE9) (by simp only [List.length_append] at hlen2 ⊢; omega)).mono fun v10 h10 ⟨g1, g2⟩ => ?_)
    rw [List.append_assoc, ← encVs_snoc, List.take_append_getElem hj2] at g1
    repeat' (first | refine w_reg ?_ | refine w_e ?_ | refine w_addN rfl rfl (by omega) ?_ | refine w_opk rfl rfl ?_)
    exact ⟨hj1, v10, _, _, _, _, _, _, rfl, g1, (k2.trans hFe).trans g2, (k3.trans hFe).trans g2⟩
  · have hj1 : lc.length ≤ j := by assumption
    rw [List.take_of_length_le (show l.length ≤ j by omega)] at k1
    skip
    refine ⟨?_, k2⟩
    have e : w ++ 4 :: (encU 9 l.length ++ encVs l) = w ++ [4] ++ encU 9 l.length ++ encVs l := by simp
    rw [e]
    exact k1

/-- Any right value. -/
theorem vput_ok (hO : OffVP O) {Z : Nat → Prop} : ∀ (m : Nat) (a : Val) {lv : Nat} {h0 : Heap} {c : List V} {out : V} {w : List Nat}, sizeOf a < m → VaR Z h0 a c → (∀ i, Z i → i < h0.n ∧ i ∉ slIds out) → okV lv a → pcs a ≤ 256 → Ow h0 1 out (w.map byteC) → w.length + (encV a).length ≤ 3999999000 →
    WPc tab.get O 95 [out, .agg c] h0 (fun v h' => Ow h' 1 v ((w ++ encV a).map byteC) ∧ Fr h0 out h' v)
  | 0, a, _, _, _, _, _, hm, _, _, _, _, _, _ => absurd hm (Nat.not_lt_zero _)
  | m + 1, .mk k n s l, lv, h0, c, out, w, hm, hv, hZ, hk, hp, ho, hr => by
    by_cases h4 : k = 4
    · subst h4
      have hk2 : okVs (lv - 1) l := by
        unfold okV at hk
        rcases hk.2 with ⟨a, _⟩ | ⟨a, _⟩ | ⟨a, _⟩ | ⟨_, _, _, c⟩ | ⟨a, _⟩
        · exact absurd a (by decide)
        · exact absurd a (by decide)
        · exact absurd a (by decide)
        · exact c
        · exact absurd a (by decide)
      have hp2 : pcs (.mk 4 n s l) = 1 + pcss l := rfl
      exact vput_tuple hO hv hk2 (by omega) hZ ho hr fun a ha h1 c out w q1 q2 q3 q4 q5 q6 => vput_ok hO m a (by have := List.sizeOf_lt_of_mem ha; simp only [Val.mk.sizeOf_spec] at hm; omega) q1 q2 q3 q4 q5 q6
    · exact vput_plain hO hv hk h4 ho (by omega)
end AmT
