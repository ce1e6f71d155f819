/-
  actor.Bytes' parts: values and tags are written, or it is told that they may not be. Conditions: numbers are of 64 bits; not too much is written.
-/
import Derived.Test.YtncbfghlokfmeaaGreatDoorVPut3
namespace AmT
open Go Am
set_option maxRecDepth 100000
set_option maxHeartbeats 8000000
set_option linter.unusedSimpArgs false
set_option linter.unusedVariables false
variable {O : CallF}

structure OffAW (O : CallF) : Prop where
  toVR : OffVR O
  toVP : OffVP O
  vp : ∀ a h, O 54 a h = none
  b1 : ∀ a h, O 52 a h = none
  b2 : ∀ a h, O 55 a h = none
  by_ : ∀ a h, O 22 a h = none

theorem aput_ok (hO : OffAW O) {Z : Nat → Prop} {h0 : Heap} {io ib : Nat} {bv lv : V} {w : List Nat} {b : Bool} {lc : List (List V)} {l : List Val} (k : RcSt h0 io ib bv w b) (hr : RSz Z h0 4 lv lc) (hv : VasR Z h0 l lc) (hz : ∀ i, Z i → i < h0.n ∧ i ∉ [io, ib] ∧ i ∉ slIds bv) (ht : ∀ a ∈ l, RngV a) (hlen : w.length + (cVals.enc l).length ≤ 3999998000) :
    WPc tab.get O 52 [lv, .ptr ib 0 0 1, .ptr io 0 0 1] h0 (fun _ h' => ∃ bv' w' b', RcSt h' io ib bv' w' b' ∧ WrS [io, ib] h0 bv h' bv' ∧ (b' = true ↔ b = true ∧ cVals.ok l) ∧ (b' = true → w' = w ++ cVals.enc l) ∧ w'.length ≤ w.length + (cVals.enc l).length) := by
  refine w_fn' (hO.b1 _ _) rfl rfl (by simp only [c52, initV, nth] <;> rfl) ?_
  have r0 := hr.1
  have hll := hv.len
  have hen := enc_vals l
  have hge := encVs_ge l
  rw [hen, List.length_append] at hlen
  refine w_seq (WPx.mono (N := fun vs h' => vs = [lv, .ptr ib 0 0 1, .ptr io 0 0 1, .any, .any, .any, .any, .any, .any, .any, .any] ∧ RcSt h' io ib bv w (b && decide (lc.length ≤ 255)) ∧ WrS [io, ib] h0 bv h' bv) ?_ (fun vs' h1 hq => ?_) fun _ _ x => x)
  · have kt := k.t
    cases b with
    | false =>
      repeat' (first | refine w_reg ?_ | refine w_off rfl ?_ | refine w_fl rfl (by assumption) (by rfl) (by rfl) (by rfl) ?_ | refine w_opk rfl rfl ?_)
      refine w_store rfl rfl kt rfl rfl (by decide) (by simp) fun h1 k1 k2 k3 => ?_
      obtain ⟨q1, q2⟩ := k.told k1 k2
      repeat' (first | refine w_e ?_)
      exact ⟨rfl, q1, q2⟩
    | true =>
      repeat' (first | refine w_reg ?_ | refine w_fl rfl (by assumption) (by rfl) (by rfl) (by rfl) ?_ | refine w_on rfl ?_ | refine w_len rfl (by assumption) ?_ | refine w_leqN rfl rfl (fun hc => ?_) (fun hc => ?_) | refine w_opk rfl rfl ?_)
      · have hc : lc.length ≤ 255 := by assumption
        refine w_store rfl rfl kt rfl rfl (by decide) (by simp) fun h1 k1 k2 k3 => ?_
        obtain ⟨q1, q2⟩ := k.told k1 k2
        repeat' (first | refine w_e ?_)
        exact ⟨rfl, by simpa [hc] using q1, q2⟩
      · have hc : 255 < lc.length := by assumption
        refine w_store rfl rfl kt rfl rfl (by decide) (by simp) fun h1 k1 k2 k3 => ?_
        obtain ⟨q1, q2⟩ := k.told k1 k2
        repeat' (first | refine w_e ?_)
        exact ⟨rfl, by simpa [show ¬ lc.length ≤ 255 by omega] using q1, q2⟩
  obtain ⟨rfl, k1, w1⟩ := hq
  generalize hb1 : (b && decide (lc.length ≤ 255)) = b1 at *
  have hbb : b1 = true ↔ b = true ∧ l.length ≤ 255 := by
    rw [← hb1, Bool.and_eq_true, decide_eq_true_eq, hll]
  have ko := k1.o
  have r1 := (w1.rsz hz hr).1
  repeat' (first | refine w_seq ?_ | refine w_reg ?_ | refine w_fl rfl (by assumption) (by rfl) (by rfl) (by rfl) ?_ | refine w_len rfl (by assumption) ?_ | refine w_opq rfl rfl ?_)
  refine w_toI (b := .ofNat lc.length) rfl (by rw [wrap_u64]; show ((lc.length : Nat) : Int) % _ = ((lc.length : Nat) : Int); omega) ?_
  have hu := encU_10 l.length
  refine w_call rfl ((enc_ok (n := lc.length) hO.toVP.u rfl (by omega) k1.w (by omega)).mono fun bv2 h2 ⟨t1, t2⟩ => ?_)
  rw [hll] at t1
  have ko2 := ko.ext t2.1 k1.no
  refine w_store rfl rfl ko2 (by rw [V.cells1 t1.rs.one]; rfl) (by rw [V.cells1 t1.rs.one]; simp only [allOne, t1.rs.one]) (by decide) (by simp) fun h3 u1 u2 u3 => ?_
  rw [V.cells1 t1.rs.one] at u1
  obtain ⟨k3, w3⟩ := k1.more t2 t1 u1 u2
  have W3 := w1.trans w3
  have r3 := (W3.rsz hz hr).1
  clear ko ko2 u1 u2 t1 t2 w1 w3 k1
  repeat' (first | refine w_seq ?_ | refine w_reg ?_ | refine w_e ?_ | refine w_len rfl (by assumption) ?_ | refine w_opq rfl rfl ?_)
  refine w_count (fun j vs h => ∃ c5 c7 c8 c9 c10 bv', vs = [lv, .ptr ib 0 0 1, .ptr io 0 0 1, .int .i64 (.ofNat j), .int .i64 (.ofNat lc.length), c5, lv, c7, c8, c9, c10] ∧ RcSt h io ib bv' (w ++ encU 9 l.length ++ encVs (l.take j)) b1 ∧ WrS [io, ib] h0 bv h bv' ∧ ∀ a ∈ l.take j, cVal.ok a) lc.length ⟨_, _, _, _, _, _, rfl, by simpa [encVs] using k3, W3, by simp⟩ ?_
  clear k3 W3 r3 r1
  rintro j vs h hj ⟨c5, c7, c8, c9, c10, bv', rfl, kj, wj, hok⟩
  have rj := (wj.rsz hz hr).1
  have vj := wj.vas hz hv
  repeat' (first | refine w_seq ?_ | refine w_reg ?_ | refine w_e ?_ | refine w_lssN rfl rfl (fun hc => ?_) (fun hc => ?_) | refine w_cond_t rfl ?_ | refine w_cond_f rfl ?_ | refine w_skip ?_ | refine w_exit rfl ?_ | refine w_rt rfl ?_)
  · have hj1 : j < lc.length := by assumption
    have hj2 : j < l.length := by omega
    have va := vj.get hj2 hj1
    have hsh := va.shape
    have hsp := encVs_part hj2
    refine w_block ?_
    repeat' (first | refine w_seq ?_ | refine w_reg ?_)
    refine w_iadrS rfl rfl rj hj1 ?_
    refine w_loadA rfl (slot_at rj hj1) (by rw [hsh.1]; rfl) ?_
    rw [show List.take 4 lc[j] = lc[j] from List.take_of_length_le (by omega)]
    refine w_new (fun p => rfl) hsh.1 rfl hsh.2 fun iX h4 hX hiX hE4 => ?_
    replace hX : Own h4 iX lc[j] := hX
    have k4 := kj.ext0 hE4
    have ko := k4.o
    have w4 := wj.ext0 hE4
    repeat' (first | refine w_seq ?_ | refine w_reg ?_ | refine w_e ?_ | refine w_fl rfl (by assumption) (by rfl) (by rfl) (by rfl) ?_)
    refine w_loadA rfl (hX.at hsh.1) (by show Nat.ble 4 lc[j].length = true; rw [hsh.1]; rfl) ?_
    rw [show List.take 4 lc[j] = lc[j] from List.take_of_length_le (by omega)]
    refine w_call rfl ((vPut_ok hO.toVR hO.toVP hO.vp (va.ext0 hE4) (fun i z => ⟨(w4.z hz i z).1, (w4.z hz i z).2.2⟩) (ht _ (List.getElem_mem hj2)) k4.w (by simp only [List.length_append]; omega)).mono fun _ h5 ⟨bv5, e5, ev, g1, g2⟩ => ?_)
    subst ev
    by_cases hok1 : cVal.ok l[j]
    · obtain ⟨z1, t1, t2⟩ := g1 hok1
      subst z1
      have ko5 := ko.ext t2.1 k4.no
      repeat' (first | refine w_seq ?_ | refine w_reg ?_ | refine w_e ?_ | refine w_opk rfl rfl ?_ | refine w_cond_f rfl ?_ | refine w_skip ?_)
      refine w_store rfl rfl ko5 (by rw [V.cells1 t1.rs.one]; rfl) (by rw [V.cells1 t1.rs.one]; simp only [allOne, t1.rs.one]) (by decide) (by simp) fun h6 u1 u2 u3 => ?_
      rw [V.cells1 t1.rs.one] at u1
      obtain ⟨k6, w6⟩ := k4.more t2 t1 u1 u2
      rw [List.append_assoc, ← encVs_take hj2] at k6
      repeat' (first | refine w_reg ?_ | refine w_e ?_ | refine w_addN rfl rfl (by omega) ?_ | refine w_opk rfl rfl ?_)
      refine ⟨hj1, _, _, _, _, _, bv5, rfl, k6, w4.trans w6, fun a ha => ?_⟩
      rw [← List.take_append_getElem hj2] at ha
      rcases List.mem_append.1 ha with ha | ha
      · exact hok a ha
      · rw [List.mem_singleton.1 ha]; exact hok1
    · obtain ⟨z1, hE5⟩ := g2 hok1
      have k5 := k4.ext0 hE5
      have kt := k5.t
      repeat' (first | refine w_seq ?_ | refine w_reg ?_ | refine w_e ?_ | refine w_neq rfl rfl (fun hc => ?_) (fun hc => ?_) | refine w_opk rfl rfl ?_ | refine w_cond_t rfl ?_ | refine w_cond_f rfl ?_ | refine w_skip ?_)
      · refine w_store rfl rfl kt rfl rfl (by decide) (by simp) fun h6 u1 u2 u3 => ?_
        obtain ⟨q1, q2⟩ := k5.told u1 u2
        repeat' (first | refine w_e ?_ | refine w_ret ?_ | refine w_rt rfl ?_)
        refine ⟨bv', _, false, q1, (w4.ext0 hE5).trans q2, ⟨(fun e => by cases e), fun e => absurd (e.2.2 _ (List.getElem_mem hj2)) hok1⟩, (fun e => by cases e), ?_⟩
        rw [hen]
        simp only [List.length_append]
        omega
      · exact absurd (by assumption) z1
  · have hj1 : lc.length ≤ j := by assumption
    rw [List.take_of_length_le (by omega)] at kj hok
    skip
    refine ⟨bv', _, b1, kj, wj, ⟨fun e => ⟨(hbb.1 e).1, (hbb.1 e).2, hok⟩, fun e => hbb.2 ⟨e.1, e.2.1⟩⟩, fun _ => by rw [hen, List.append_assoc], ?_⟩
    rw [hen]
    simp only [List.length_append]
    omega

theorem atagw_ok (hO : OffAW O) {h0 : Heap} {io ib : Nat} {bv : V} {w : List Nat} {b : Bool} {s : List UInt8} (k : RcSt h0 io ib bv w b) (hlen : w.length + (cTag.enc s).length ≤ 3999998000) :
    WPc tab.get O 55 [.str s, .ptr ib 0 0 1, .ptr io 0 0 1] h0 (fun _ h' => ∃ bv' b', RcSt h' io ib bv' (w ++ cTag.enc s) b' ∧ WrS [io, ib] h0 bv h' bv' ∧ (b' = true ↔ b = true ∧ cTag.ok s)) := by
  refine w_fn' (hO.b2 _ _) rfl rfl (by simp only [c55, initV, nth] <;> rfl) ?_
  rw [enc_tag] at hlen ⊢
  simp only [List.length_append, List.length_map] at hlen
  have hu := (encU_len 9 s.length).1
  refine w_seq (WPx.mono (N := fun vs h' => vs = [.str s, .ptr ib 0 0 1, .ptr io 0 0 1] ∧ RcSt h' io ib bv w (b && decide (s.length ≤ 255)) ∧ WrS [io, ib] h0 bv h' bv) ?_ (fun vs' h1 hq => ?_) fun _ _ x => x)
  · have kt := k.t
    cases b with
    | false =>
      repeat' (first | refine w_reg ?_ | refine w_off rfl ?_ | refine w_fl rfl (by assumption) (by rfl) (by rfl) (by rfl) ?_ | refine w_opk rfl rfl ?_)
      refine w_store rfl rfl kt rfl rfl (by decide) (by simp) fun h1 k1 k2 k3 => ?_
      obtain ⟨q1, q2⟩ := k.told k1 k2
      repeat' (first | refine w_e ?_)
      exact ⟨rfl, q1, q2⟩
    | true =>
      repeat' (first | refine w_reg ?_ | refine w_fl rfl (by assumption) (by rfl) (by rfl) (by rfl) ?_ | refine w_on rfl ?_ | refine w_leqN rfl rfl (fun hc => ?_) (fun hc => ?_) | refine w_opk rfl rfl ?_)
      · have hc : s.length ≤ 255 := by assumption
        refine w_store rfl rfl kt rfl rfl (by decide) (by simp) fun h1 k1 k2 k3 => ?_
        obtain ⟨q1, q2⟩ := k.told k1 k2
        repeat' (first | refine w_e ?_)
        exact ⟨rfl, by simpa [hc] using q1, q2⟩
      · have hc : 255 < s.length := by assumption
        refine w_store rfl rfl kt rfl rfl (by decide) (by simp) fun h1 k1 k2 k3 => ?_
        obtain ⟨q1, q2⟩ := k.told k1 k2
        repeat' (first | refine w_e ?_)
        exact ⟨rfl, by simpa [show ¬ s.length ≤ 255 by omega] using q1, q2⟩
  obtain ⟨rfl, k1, w1⟩ := hq
  generalize hb1 : (b && decide (s.length ≤ 255)) = b1 at *
  have hbb : b1 = true ↔ b = true ∧ cTag.ok s := by
    rw [← hb1, Bool.and_eq_true, decide_eq_true_eq]; exact Iff.rfl
  have ko := k1.o
  repeat' (first | refine w_reg ?_ | refine w_fl rfl (by assumption) (by rfl) (by rfl) (by rfl) ?_ | refine w_opq rfl rfl ?_)
  refine w_toBytes rfl fun sv h2 p1 p2 => ?_
  have k2 := k1.ext0 p2.ext0
  have ko2 := k2.o
  have hn : ∀ j ∈ slIds sv, j ∉ slIds bv := fun j hj hb => by
    rcases p2.2 j hj with e | e
    · cases e
    · have := k1.w.rs.lt j hb; omega
  refine w_call rfl ((blob_ok hO.toVP k2.w p1.rs hn (by rw [List.length_map]; omega)).mono fun bv3 h3 ⟨t1, t2⟩ => ?_)
  rw [List.length_map] at t1
  have ko3 := ko2.ext t2.1 k2.no
  refine w_store rfl rfl ko3 (by rw [V.cells1 t1.rs.one]; rfl) (by rw [V.cells1 t1.rs.one]; simp only [allOne, t1.rs.one]) (by decide) (by simp) fun h4 u1 u2 u3 => ?_
  rw [V.cells1 t1.rs.one] at u1
  obtain ⟨k4, w4⟩ := k2.more t2 t1 u1 u2
  repeat' (first | refine w_e ?_ | refine w_rt rfl ?_)
  exact ⟨bv3, b1, k4, (w1.ext0 p2.ext0).trans w4, hbb⟩
end AmT
