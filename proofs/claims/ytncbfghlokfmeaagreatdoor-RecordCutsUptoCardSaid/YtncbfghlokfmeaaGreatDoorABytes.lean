/-
  actor.Bytes: what a record is written as, or none. Conditions: its numbers are of their kinds; it is not too long.
-/
import Derived.Test.YtncbfghlokfmeaaGreatDoorAWr
namespace AmT
open Go Am
set_option maxRecDepth 100000
set_option maxHeartbeats 8000000
set_option linter.unusedSimpArgs false
set_option linter.unusedVariables false
variable {O : CallF}

theorem abytes_ok (hO : OffAW O) {Z : Nat → Prop} {h0 : Heap} {c : List V} {R : RecT} (hR : RecR Z h0 c R) (hz : ∀ i, Z i → i < h0.n) (ht : TyR R) (hlen : (cRec.enc R).length ≤ 3999990000) :
    WPc tab.get O 22 [.agg c] h0 (fun v h' => Ext h0 h' ∧ ∃ bv e, v = .tuple [bv, .int .i64 e] ∧ (cRec.ok R → e = 0 ∧ Ow h' 1 bv ((cRec.enc R).map byteC)) ∧ (¬ cRec.ok R → e = 2 ∧ bv = .nils)) := by
  refine w_fn' (hO.by_ _ _) rfl rfl (by simp only [c22, initV, nth] <;> rfl) ?_
  have hsh := hR.shape
  refine w_seq (w_reg (w_box rfl hsh.1 hsh.2 fun ir h1 hX hir hE1 => ?_))
  replace hX : Own h1 ir c := hX
  have hR1 := hR.ext0 hE1
  have m1 := hE1.1
  have hXl := hX.1
  obtain ⟨n0, n1, n2, n3, n4, n5, n6, n7, n8, n9, tag, args, state, effs, av, sv, xv, la, ls, le, rfl, rfl, hn5, r1, v1, r2, v2, r3, a3⟩ := hR1
  clear hR
  have hrx := r3.1
  repeat' (first | refine w_seq ?_ | refine w_reg ?_ | refine w_e ?_ | refine w_opk rfl rfl ?_)
  refine w_alloc fun io h2 hI hio hE2 => ?_
  replace hI : Own h2 io [.nils] := hI
  have m2 := hE2.1
  have hIl := hI.1
  have hX2 := hX.ext0 hE2
  have hrx2 := hrx.ext0 hE2
  refine w_e ?_
  refine w_seq (WPx.mono (N := fun vs h' => ∃ ib, vs = [.agg [.int .i64 n0, .int .i64 n1, .int .i64 n2, .int .i64 n3, .int .i64 n4, .str tag, av, .int .u8 n5, .int .i64 n6, .int .i64 n7, xv, .int .i64 n8, sv, .int .i64 n9], .nils, .int .i64 (.ofNat 0), .ptr ir 0 0 14, .ptr ib 0 0 1, .ptr io 0 0 1, .any, .any, .any, .any, .any, .any, .any, .any, .any, .any, .any, .any, .any] ∧ RcSt h' io ib .nils [] (decide (n5 ≤ 4) && decide (le.length ≤ 1000)) ∧ h2.n ≤ ib ∧ Ext h2 h') ?_ (fun vs' h3 hq => ?_) fun _ _ x => x)
  · have fin : ∀ {h4 h5 : Heap} {ib : Nat} {z : Bool}, Ext h2 h4 → Own h4 ib [.bool false] → h2.n ≤ ib → Own h5 ib [.bool z] → ExtX [ib] h4 h5 → RcSt h5 io ib .nils [] z ∧ Ext h2 h5 := fun {h4 h5 ib z} e1 e2 e3 e4 e5 => by
      refine ⟨⟨(hI.ext0 e1).ext e5 (by simp; omega), e4, Ow.nils _ _, by simp [slIds], by simp [slIds], by omega⟩, e1.step e5 fun j hj => by simp at hj; exact .inr (by omega)⟩
    repeat' (first | refine w_reg ?_ | refine w_off rfl ?_ | refine w_rf rfl (by assumption) (by rfl) (by rfl) (by rfl) ?_ | refine w_rfg rfl rfl (by assumption) (by rfl) (by rfl) (by rfl) (by rfl) ?_ | refine w_on rfl ?_ | refine w_len rfl (by assumption) ?_ | refine w_leqN rfl rfl (fun hc => ?_) (fun hc => ?_) | refine w_leq rfl rfl (fun hc => ?_) (fun hc => ?_) | refine w_opk rfl rfl ?_)
    all_goals
      refine w_alloc fun ib h4 hb hib hE4 => ?_
      refine w_store rfl rfl hb rfl rfl (by decide) (by simp) fun h5 u1 u2 u3 => ?_
      obtain ⟨q1, q2⟩ := fin hE4 hb hib u1 u2
    all_goals (repeat' (first | refine w_e ?_))
    · have e1 : n5 ≤ (4 : Int) := by assumption
      have e2 : le.length ≤ 1000 := by assumption
      exact ⟨ib, rfl, by simpa [e1, e2] using q1, hib, q2⟩
    · have e2 : 1000 < le.length := by assumption
      exact ⟨ib, rfl, by simpa [show ¬ le.length ≤ 1000 by omega] using q1, hib, q2⟩
    · have e1 : (4 : Int) < n5 := by assumption
      exact ⟨ib, rfl, by simpa [show ¬ n5 ≤ 4 by omega] using q1, hib, q2⟩
  obtain ⟨ib, rfl, k3, hib, E3⟩ := hq
  generalize hb0 : (decide (n5 ≤ 4) && decide (le.length ≤ 1000)) = b0 at *
  have hbb : b0 = true ↔ n5 ≤ 4 ∧ le.length ≤ 1000 := by
    rw [← hb0, Bool.and_eq_true, decide_eq_true_eq, decide_eq_true_eq]
  have m3 := E3.1
  have hX3 := hX2.ext0 E3
  have hXn : ir ∉ [io, ib] := by simp; omega
  obtain ⟨tn, ta, ts, te⟩ := ht
  have hn5b : I64 n5 := tn n5 (by simp)
  have hw5 : IntKind.i64.wrap n5 = n5 := by
    obtain ⟨n, rfl⟩ := Int.eq_ofNat_of_zero_le hn5
    exact wrap_i64_nat (by have := hn5b.2; omega)
  repeat' (first | refine w_seq ?_ | refine w_reg ?_ | refine w_e ?_ | refine w_rf rfl (by assumption) (by rfl) (by rfl) (by rfl) ?_ | refine w_fl rfl (by assumption) (by rfl) (by rfl) (by rfl) ?_ | refine w_opq rfl rfl ?_)
  refine w_toI rfl hw5 ?_
  repeat' (first | refine w_rf rfl (by assumption) (by rfl) (by rfl) (by rfl) ?_)
  refine w_build ([n0, n1, n2, n3, n4, n5, n6, n7, n8, n9].map iV) rfl rfl ?_
  repeat' (first | refine w_e ?_ | refine w_opq rfl rfl ?_)
  generalize hns : [n0, n1, n2, n3, n4, n5, n6, n7, n8, n9] = ns at *
  have hnl : ns.length = 10 := by rw [← hns]; rfl
  rw [enc_rec] at hlen
  simp only [List.length_append] at hlen
  refine w_count (fun j vs h => ∃ c7 c9 bv, vs = [.agg [.int .i64 n0, .int .i64 n1, .int .i64 n2, .int .i64 n3, .int .i64 n4, .str tag, av, .int .u8 n5, .int .i64 n6, .int .i64 n7, xv, .int .i64 n8, sv, .int .i64 n9], .nils, .int .i64 (.ofNat 0), .ptr ir 0 0 14, .ptr ib 0 0 1, .ptr io 0 0 1, .int .i64 (.ofNat j), c7, .agg (ns.map iV), c9, .fn 55 [] [.ptr ib 0 0 1, .ptr io 0 0 1], .fn 52 [] [.ptr ib 0 0 1, .ptr io 0 0 1], .any, .any, .any, .any, .any, .any, .any] ∧ RcSt h io ib bv (encL cI64.enc (ns.take j)) b0 ∧ WrS [io, ib] h3 .nils h bv) 10 ⟨_, _, .nils, rfl, by simpa [encL] using k3, WrS.refl _ _ _⟩ ?_
  have E13 := hE2.trans E3
  have hz3 : ∀ i, Z i → i < h3.n ∧ i ∉ [io, ib] ∧ i ∉ slIds V.nils := fun i z => ⟨by have := hz i z; omega, by have := hz i z; simp; omega, by simp [slIds]⟩
  have r13 : RSz Z h3 4 av la := ⟨r1.1.ext0 E13, r1.2⟩
  have r23 : RSz Z h3 4 sv ls := ⟨r2.1.ext0 E13, r2.2⟩
  have r33 : RSz Z h3 4 xv le := ⟨r3.1.ext0 E13, r3.2⟩
  have v13 := v1.ext0 E13
  have v23 := v2.ext0 E13
  have a33 := a3.mono fun _ _ _ _ k => k.ext (Z := Z) E13 (S := []) (by simp)
  clear r1 r2 r3 v1 v2 a3 hX hX2 hrx hrx2 k3 hI
  rintro j vs h hj ⟨c7, c9, bv, rfl, kj, wj⟩
  have hXj := (wj.own hX3 hXn (by simp [slIds])).1
  repeat' (first | refine w_seq ?_ | refine w_reg ?_ | refine w_e ?_ | refine w_fl rfl (by assumption) (by rfl) (by rfl) (by rfl) ?_ | refine w_lssN rfl rfl (fun hc => ?_) (fun hc => ?_) | refine w_opk rfl rfl ?_ | refine w_cond_t rfl ?_ | refine w_cond_f rfl ?_ | refine w_skip ?_ | refine w_exit rfl ?_)
  · have hj1 : j < 10 := by assumption
    have hj2 : j < ns.length := by omega
    have hsp := encL_split cI64.enc ns hj2
    have kjo := kj.o
    refine w_block ?_
    repeat' (first | refine w_seq ?_ | refine w_reg ?_)
    refine w_idxI rfl rfl hnl hj2 ?_
    repeat' (first | refine w_reg ?_ | refine w_e ?_ | refine w_fl rfl (by assumption) (by rfl) (by rfl) (by rfl) ?_ | refine w_opk rfl rfl ?_)
    have hI64 := tn _ (List.getElem_mem hj2)
    refine w_call rfl ((int_ok hO.toVP.u hO.toVP.i kj.w (by omega)).mono fun bv4 h4 ⟨t1, t2⟩ => ?_)
    rw [zig_all hI64.1 hI64.2, show encU 9 (zig ns[j]) = cI64.enc ns[j] from rfl, ← encL_take cI64.enc ns hj2] at t1
    have ko4 := kjo.ext t2.1 kj.no
    refine w_store rfl rfl ko4 (by rw [V.cells1 t1.rs.one]; rfl) (by rw [V.cells1 t1.rs.one]; simp only [allOne, t1.rs.one]) (by decide) (by simp) fun h5 u1 u2 u3 => ?_
    rw [V.cells1 t1.rs.one] at u1
    obtain ⟨k5, w5⟩ := kj.more t2 t1 u1 u2
    repeat' (first | refine w_reg ?_ | refine w_e ?_ | refine w_addN rfl rfl (by omega) ?_ | refine w_opk rfl rfl ?_)
    exact ⟨hj1, _, _, bv4, rfl, k5, wj.trans w5⟩
  · have hj1 : j = 10 := by
      have : 10 ≤ j := by assumption
      omega
    subst hj1
    rw [List.take_of_length_le (by omega)] at kj
    refine w_callv rfl rfl ((atagw_ok hO kj (by omega)).mono fun _ h5 ⟨bv5, b5, k5, w5, hb5⟩ => ?_)
    have W5 := wj.trans w5
    have hX5 := (W5.own hX3 hXn (by simp [slIds])).1
    clear kj wj w5 hXj
    repeat' (first | refine w_seq ?_ | refine w_reg ?_ | refine w_e ?_ | refine w_fl rfl (by assumption) (by rfl) (by rfl) (by rfl) ?_ | refine w_opk rfl rfl ?_)
    refine w_callv rfl rfl ((aput_ok hO k5 (W5.rsz hz3 r13) (W5.vas hz3 v13) (W5.z hz3) ta (by simp only [List.length_append]; omega)).mono fun _ h6 ⟨bv6, w6, b6, k6, x6, hb6, he6, hl6⟩ => ?_)
    have W6 := W5.trans x6
    have hX6 := (W6.own hX3 hXn (by simp [slIds])).1
    simp only [List.length_append] at hl6
    clear k5 W5 x6 hX5
    repeat' (first | refine w_seq ?_ | refine w_reg ?_ | refine w_e ?_ | refine w_rf rfl (by assumption) (by rfl) (by rfl) (by rfl) ?_ | refine w_opk rfl rfl ?_)
    refine w_callv rfl rfl ((aput_ok hO k6 (W6.rsz hz3 r23) (W6.vas hz3 v23) (W6.z hz3) ts (by omega)).mono fun _ h7 ⟨bv7, w7, b7, k7, x7, hb7, he7, hl7⟩ => ?_)
    have W7 := W6.trans x7
    have hX7 := (W7.own hX3 hXn (by simp [slIds])).1
    have r37 := (W7.rsz hz3 r33).1
    have k7o := k7.o
    clear k6 W6 x7 hX6
    have hll := a33.1
    have hge := encL_ge (f := cEff.enc) (fun e => by rw [enc_eff]; have := encU_ge 9 (zig e.1); simp only [List.length_append]; omega) effs
    repeat' (first | refine w_seq ?_ | refine w_reg ?_ | refine w_e ?_ | refine w_rf rfl (by assumption) (by rfl) (by rfl) (by rfl) ?_ | refine w_fl rfl (by assumption) (by rfl) (by rfl) (by rfl) ?_ | refine w_len rfl (by assumption) ?_)
    refine w_toI (b := .ofNat le.length) rfl (by rw [wrap_u64]; show ((le.length : Nat) : Int) % _ = ((le.length : Nat) : Int); omega) ?_
    refine w_call rfl ((enc_ok (n := le.length) hO.toVP.u rfl (by omega) k7.w (by omega)).mono fun bv8 h8 ⟨t1, t2⟩ => ?_)
    rw [hll] at t1
    have ko8 := k7o.ext t2.1 k7.no
    refine w_store rfl rfl ko8 (by rw [V.cells1 t1.rs.one]; rfl) (by rw [V.cells1 t1.rs.one]; simp only [allOne, t1.rs.one]) (by decide) (by simp) fun h9 u1 u2 u3 => ?_
    rw [V.cells1 t1.rs.one] at u1
    obtain ⟨k9, x9⟩ := k7.more t2 t1 u1 u2
    have W9 := W7.trans x9
    have hX9 := (W9.own hX3 hXn (by simp [slIds])).1
    have r39 := (W9.rsz hz3 r33).1
    clear k7 k7o W7 x9 hX7 r37 ko8 u1 u2 t1 t2
    repeat' (first | refine w_seq ?_ | refine w_reg ?_ | refine w_e ?_ | refine w_rf rfl (by assumption) (by rfl) (by rfl) (by rfl) ?_ | refine w_len rfl (by assumption) ?_ | refine w_opq rfl rfl ?_)
    have hbase : b7 = true ↔ (n5 ≤ 4 ∧ effs.length ≤ 1000) ∧ cTag.ok tag ∧ cVals.ok args ∧ cVals.ok state := by
      rw [hb7, hb6, hb5, hbb, hll]
      constructor
      · rintro ⟨⟨⟨h1, h2⟩, h3⟩, h4⟩; exact ⟨h1, h2, h3, h4⟩
      · rintro ⟨h1, h2, h3, h4⟩; exact ⟨⟨⟨h1, h2⟩, h3⟩, h4⟩
    have hbytes : b7 = true → w7 ++ encU 9 effs.length = encL cI64.enc ns ++ (cTag.enc tag ++ (cVals.enc args ++ (cVals.enc state ++ encU 9 effs.length))) := fun e => by
      rw [he7 e, he6 (hb7.1 e).1]
      simp only [List.append_assoc]
    have hw7 : (w7 ++ encU 9 effs.length).length + (encL cEff.enc effs).length ≤ 3999990000 := by
      simp only [List.length_append]; omega
    clear he6 he7 hb5 hb6 hb7 hl6 hbb hb0
    generalize w7 ++ encU 9 effs.length = w9 at *
    refine w_block_cut (fun vs h => ∃ c6 c7 c8 c9 c12 c13 c14 c15 c16 c17 bv w b, vs = [.agg [.int .i64 n0, .int .i64 n1, .int .i64 n2, .int .i64 n3, .int .i64 n4, .str tag, av, .int .u8 n5, .int .i64 n6, .int .i64 n7, xv, .int .i64 n8, sv, .int .i64 n9], .nils, .int .i64 (.ofNat 0), .ptr ir 0 0 14, .ptr ib 0 0 1, .ptr io 0 0 1, c6, c7, c8, c9, .fn 55 [] [.ptr ib 0 0 1, .ptr io 0 0 1], .fn 52 [] [.ptr ib 0 0 1, .ptr io 0 0 1], c12, c13, c14, c15, c16, c17, .any] ∧ RcSt h io ib bv w b ∧ WrS [io, ib] h3 .nils h bv ∧ (b = true ↔ b7 = true ∧ ∀ e ∈ effs, cEff.ok e) ∧ (b = true → w = w9 ++ encL cEff.enc effs))
      (w_loop (fun m vs h => ∃ j c6 c7 c8 c9 c14 c16 c17 bv w b, m = le.length - j ∧ j ≤ le.length ∧ vs = [.agg [.int .i64 n0, .int .i64 n1, .int .i64 n2, .int .i64 n3, .int .i64 n4, .str tag, av, .int .u8 n5, .int .i64 n6, .int .i64 n7, xv, .int .i64 n8, sv, .int .i64 n9], .nils, .int .i64 (.ofNat 0), .ptr ir 0 0 14, .ptr ib 0 0 1, .ptr io 0 0 1, c6, c7, c8, c9, .fn 55 [] [.ptr ib 0 0 1, .ptr io 0 0 1], .fn 52 [] [.ptr ib 0 0 1, .ptr io 0 0 1], .int .i64 (.ofNat j), .int .i64 (.ofNat le.length), c14, xv, c16, c17, .any] ∧ RcSt h io ib bv w b ∧ WrS [io, ib] h3 .nils h bv ∧ (b = true ↔ b7 = true ∧ ∀ e ∈ effs.take j, cEff.ok e) ∧ (b = true → w = w9 ++ encL cEff.enc (effs.take j)) ∧ w.length ≤ w9.length + (encL cEff.enc (effs.take j)).length) ?_ le.length _ _
        ⟨0, _, _, _, _, _, _, _, _, _, _, rfl, Nat.zero_le _, rfl, k9, W9, by simp, by simp [encL], by simp [encL]⟩) ?_
    · clear k9 W9 hX9 r39
      rintro m vs h ⟨j, c6, c7, c8, c9, c14, c16, c17, bv, w, b, rfl, hj, rfl, kj, wj, hbj, hwj, hlj⟩
      have rj := (wj.rsz hz3 r33).1
      repeat' (first | refine w_seq ?_ | refine w_reg ?_ | refine w_e ?_ | refine w_lssN rfl rfl (fun hc => ?_) (fun hc => ?_) | refine w_cond_t rfl ?_ | refine w_cond_f rfl ?_ | refine w_skip ?_ | refine w_exit rfl ?_)
      · have hj1 : j < le.length := by assumption
        have hj2 : j < effs.length := by omega
        have ae := a33.get hj1 hj2
        have hsh := ae.shape
        have hsp := encL_split cEff.enc effs hj2
        have htk := encL_take cEff.enc effs hj2
        have hte := te _ (List.getElem_mem hj2)
        refine w_block ?_
        repeat' (first | refine w_seq ?_ | refine w_reg ?_)
        refine w_iadrS rfl rfl rj hj1 ?_
        refine w_loadA rfl (slot_at rj hj1) (by rw [hsh.1]; rfl) ?_
        rw [show List.take 4 le[j] = le[j] from List.take_of_length_le (by omega)]
        refine w_new (fun p => rfl) hsh.1 rfl hsh.2 fun iX h4 hE hiE hE4 => ?_
        replace hE : Own h4 iX le[j] := hE
        have k4 := kj.ext0 hE4
        have kt4 := k4.t
        have ko4 := k4.o
        have w4 := wj.ext0 hE4
        obtain ⟨fv, flc, hce, hre, hve⟩ := ae
        have hEl := hE.1
        have hih := kj.o.1
        have hth := kj.t.1
        have hbl := kj.w.rs.lt
        have hEb : iX ∉ slIds bv := fun e => by have := hbl iX e; omega
        clear rj
        rw [hce] at hE
        have hmem := List.getElem_mem hj2
        have hall : (∀ x ∈ effs.take (j + 1), cEff.ok x) ↔ (∀ x ∈ effs.take j, cEff.ok x) ∧ cEff.ok effs[j] := by
          rw [← List.take_append_getElem hj2]
          constructor
          · intro h; exact ⟨fun x hx => h x (List.mem_append.2 (.inl hx)), h _ (List.mem_append.2 (.inr (List.mem_singleton.2 rfl)))⟩
          · rintro ⟨h1, h2⟩ x hx
            rcases List.mem_append.1 hx with hx | hx
            · exact h1 x hx
            · rw [List.mem_singleton.1 hx]; exact h2
        generalize effs[j] = e at *
        obtain ⟨e1, e2, e3, e4⟩ := e
        have hen := enc_eff (e1, e2, e3, e4)
        simp only at hen hte hre hve hE
        simp only [hen, List.length_append] at hsp
        cases b with
        | false =>
          repeat' (first | refine w_seq ?_ | refine w_reg ?_ | refine w_e ?_ | refine w_fl rfl (by assumption) (by rfl) (by rfl) (by rfl) ?_ | refine w_opk rfl rfl ?_ | refine w_cond_t rfl ?_ | refine w_exit rfl ?_)
          refine ⟨_, _, _, _, _, _, _, _, _, _, bv, w, false, rfl, k4, w4, ⟨(fun e => by cases e), fun e => ?_⟩, fun e => by cases e⟩
          exact hbj.2 ⟨e.1, fun x hx => e.2 x (List.mem_of_mem_take hx)⟩
        | true =>
          repeat' (first | refine w_seq ?_ | refine w_reg ?_ | refine w_e ?_ | refine w_rf rfl (by assumption) (by rfl) (by rfl) (by rfl) ?_ | refine w_fl rfl (by assumption) (by rfl) (by rfl) (by rfl) ?_ | refine w_opk rfl rfl ?_ | refine w_cond_f rfl ?_ | refine w_skip ?_)
          refine w_call rfl ((int_ok hO.toVP.u hO.toVP.i k4.w (by omega)).mono fun bv5 h5 ⟨t1, t2⟩ => ?_)
          rw [zig_all hte.1.1 hte.1.2] at t1
          obtain ⟨a1, a2⟩ := k4.apart t2
          have hE5 := hE.ext t2.1 hEb
          have hEb5 : iX ∉ slIds bv5 := fun e => by
            rcases t2.2 _ e with e | e
            · exact hEb e
            · omega
          have ko5 := ko4.ext t2.1 k4.no
          refine w_chk1 rfl rfl ((hE5.at rfl).fadr (d := 1) (by simp)) (V.beq_refl _) ?_
          refine w_call rfl ((int_ok hO.toVP.u hO.toVP.i t1 (by simp only [List.length_append]; omega)).mono fun bv6 h6 ⟨t3, t4⟩ => ?_)
          rw [zig_all hte.2.1.1 hte.2.1.2] at t3
          have hE6 := hE5.ext t4.1 hEb5
          have ko6 := ko5.ext t4.1 a1
          refine w_store rfl rfl ko6 (by rw [V.cells1 t3.rs.one]; rfl) (by rw [V.cells1 t3.rs.one]; simp only [allOne, t3.rs.one]) (by decide) (by simp) fun h7 u1 u2 u3 => ?_
          rw [V.cells1 t3.rs.one] at u1
          obtain ⟨k7, x7⟩ := k4.more (t2.trans t4) t3 u1 u2
          have hE7 := hE6.ext u2 (by simp; omega)
          have hEb7 : iX ∉ slIds bv6 := fun e => by
            rcases t4.2 _ e with e | e
            · exact hEb5 e
            · have := hE5.1; omega
          have W7 := w4.trans x7
          have hEs : iX ∉ [io, ib] := by simp; omega
          clear t1 t2 t3 t4 u1 u2 ko6 ko5 hE6 hE5 a1 a2 x7 hE ko4 kt4 k4
          repeat' (first | refine w_seq ?_ | refine w_reg ?_ | refine w_e ?_ | refine w_rf rfl (by assumption) (by rfl) (by rfl) (by rfl) ?_ | refine w_opk rfl rfl ?_)
          refine w_callv rfl rfl ((atagw_ok hO k7 (by simp only [List.length_append]; omega)).mono fun _ h8 ⟨bv8, b8, k8, x8, hb8⟩ => ?_)
          obtain ⟨hE8, hEb8⟩ := x8.own hE7 hEs hEb7
          have W8 := W7.trans x8
          repeat' (first | refine w_reg ?_ | refine w_e ?_ | refine w_rf rfl (by assumption) (by rfl) (by rfl) (by rfl) ?_ | refine w_opk rfl rfl ?_)
          refine w_callv rfl rfl ((aput_ok hO k8 (W8.rsz hz3 hre) (W8.vas hz3 hve) (W8.z hz3) hte.2.2 (by simp only [List.length_append]; omega)).mono fun _ h10 ⟨bv10, w10, b10, k10, x10, hb10, he10, hl10⟩ => ?_)
          have W10 := W8.trans x10
          simp only [List.length_append] at hl10
          repeat' (first | refine w_reg ?_ | refine w_e ?_ | refine w_addN rfl rfl (by omega) ?_ | refine w_opk rfl rfl ?_)
          refine ⟨le.length - (j + 1), by omega, j + 1, _, _, _, _, _, _, _, bv10, w10, b10, rfl, by omega, rfl, k10, W10, ?_, fun e => ?_, ?_⟩
          · rw [hb10, hb8, hall]
            constructor
            · rintro ⟨⟨_, h1⟩, h2⟩
              exact ⟨(hbj.1 rfl).1, (hbj.1 rfl).2, hte.1, hte.2.1, h1, h2⟩
            · rintro ⟨_, _, _, _, h1, h2⟩
              exact ⟨⟨rfl, h1⟩, h2⟩
          · rw [htk, he10 e, hwj rfl, hen]
            simp only [List.append_assoc]
          · rw [htk, hen]
            simp only [List.length_append]
            omega
      · have hj1 : j = le.length := by
          have : le.length ≤ j := by assumption
          omega
        rw [List.take_of_length_le (by omega)] at hbj hwj
        exact ⟨_, _, _, _, _, _, _, _, _, _, bv, w, b, rfl, kj, wj, hbj, hwj⟩
    · clear k9 W9 hX9 r39
      rintro vs h ⟨c6, c7, c8, c9, c12, c13, c14, c15, c16, c17, bv, w, b, rfl, kj, wj, hbj, hwj⟩
      have kt := kj.t
      have ko := kj.o
      have hEE : Ext h0 h := (hE1.trans E13).step wj.1 fun j hj => by simp [slIds] at hj; rcases hj with hj | hj <;> exact .inr (by omega)
      have hok : cRec.ok (ns, tag, args, state, effs) ↔ b = true := by
        rw [hbj, hbase, rec_ok]
        have hov : overOk (ns, tag, args, state, effs) = true ↔ n5 ≤ 4 := by
          unfold overOk
          rw [← hns]
          rw [decide_eq_true_eq]
          show (0 ≤ n5 ∧ n5 ≤ 4) ↔ _
          omega
        rw [hov]
        constructor
        · rintro ⟨⟨_, h1, h2, h3, h4, h5⟩, h6⟩; exact ⟨⟨⟨h6, h4⟩, h1, h2, h3⟩, h5⟩
        · rintro ⟨⟨⟨h6, h4⟩, h1, h2, h3⟩, h5⟩; exact ⟨⟨⟨hnl, tn⟩, h1, h2, h3, h4, h5⟩, h6⟩
      cases b with
      | true =>
        repeat' (first | refine w_seq ?_ | refine w_reg ?_ | refine w_e ?_ | refine w_fl rfl (by assumption) (by rfl) (by rfl) (by rfl) ?_ | refine w_opk rfl rfl ?_ | refine w_cond_f rfl ?_ | refine w_skip ?_ | refine w_ret ?_ | refine w_rt rfl ?_)
        refine ⟨hEE, bv, 0, rfl, fun _ => ⟨rfl, ?_⟩, fun hk => absurd (hok.2 rfl) hk⟩
        have e := hwj rfl
        rw [hbytes (hbj.1 rfl).1] at e
        rw [enc_rec]
        have kw := kj.w
        rw [e] at kw
        simpa only [List.append_assoc] using kw
      | false =>
        repeat' (first | refine w_seq ?_ | refine w_reg ?_ | refine w_e ?_ | refine w_fl rfl (by assumption) (by rfl) (by rfl) (by rfl) ?_ | refine w_opk rfl rfl ?_ | refine w_cond_t rfl ?_ | refine w_ret ?_ | refine w_rt rfl ?_)
        exact ⟨hEE, .nils, 2, rfl, fun hk => absurd (hok.1 hk) (by decide), fun _ => ⟨rfl, rfl⟩⟩
end AmT
