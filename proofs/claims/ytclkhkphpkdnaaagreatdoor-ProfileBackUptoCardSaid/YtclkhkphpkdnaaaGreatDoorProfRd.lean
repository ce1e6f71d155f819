/-
  profile.Read: a profile of bytes, or none. Conditions: the bytes are bytes.
-/
import Derived.Test.YtclkhkphpkdnaaaGreatDoorGet
import Derived.Test.YtclkhkphpkdnaaaGreatDoorAdd
namespace AmT
open Go Am
set_option maxRecDepth 100000
set_option maxHeartbeats 4000000
set_option linter.unusedSimpArgs false
set_option linter.unusedVariables false
variable {O : CallF}

structure OffPr (O : CallF) : Prop where
  gu : ∀ a h, O 62 a h = none
  nu : ∀ a h, O 27 a h = none
  rd : ∀ a h, O 10 a h = none

theorem pnum_ok (hO : OffPr O) {hb h0 : Heap} {r : Nat} {b : V} {bs : List Nat} {σ : Option (List Nat)} (hB : RdB hb b bs) (hs : RdSo hb h0 r b bs σ) {most : Nat} (hm : most < 18446744073709551616) (hm2 : most < 9223372036854775808) :
    WPc tab.get O 27 [.ptr r 0 0 3, .int .i64 (.ofNat most)] h0 (fun v h' => ∃ n : Nat, v = .int .i64 (.ofNat n) ∧ n ≤ most ∧ (∀ x l, aft (cNum most hm).dec σ = some (x, l) → Int.ofNat n = x) ∧ (aft (cNum most hm).dec σ = none → n = 0) ∧ RdSo hb h' r b bs (rst (aft (cNum most hm).dec σ)) ∧ ExtX [r] h0 h') := by
  refine w_fn' (hO.nu _ _) rfl rfl (by simp only [c27, initV, nth] <;> rfl) ?_
  have hwm : IntKind.u64.wrap (.ofNat most) = .ofNat most := by
    rw [wrap_u64]; show ((most : Nat) : Int) % _ = ((most : Nat) : Int); omega
  cases σ with
  | none =>
    have hs0 := hs
    obtain ⟨h1, h2, a, ha, h3⟩ := hs
    repeat' (first | refine w_seq ?_ | refine w_reg ?_ | refine w_end (by simp only [outsV, nth, setV, List.take_succ_cons, List.take_zero, List.length_cons, List.length_nil, Nat.zero_add, Nat.reduceAdd] <;> rfl) ?_ | refine w_rf rfl (by assumption) (by rfl) (by rfl) (by rfl) ?_ | refine w_opk rfl rfl ?_ | refine w_cond_t rfl ?_ | refine w_ret ?_ | refine w_rt rfl ?_)
    exact ⟨0, rfl, Nat.zero_le _, fun x l e => (by cases e), fun _ => rfl, hs0, ExtX.refl _ _⟩
  | some l =>
    obtain ⟨h1, h2, a, ha, rfl, h3⟩ := hs
    have hrs := hB.rs.ext0 h2
    repeat' (first | refine w_seq ?_ | refine w_reg ?_ | refine w_end (by simp only [outsV, nth, setV, List.take_succ_cons, List.take_zero, List.length_cons, List.length_nil, Nat.zero_add, Nat.reduceAdd] <;> rfl) ?_ | refine w_rf rfl (by assumption) (by rfl) (by rfl) (by rfl) ?_ | refine w_opk rfl rfl ?_ | refine w_cond_f rfl ?_ | refine w_skip ?_)
    refine w_call rfl ((getU_ok hO.gu hrs hB.by_ ha hB.len).mono fun v h1' ⟨hv, e1⟩ => ?_)
    subst e1
    cases hd : dU 9 true (bs.drop a) with
    | none =>
      have hN : aft (cNum most hm).dec (some (bs.drop a)) = none := by
        show dMap _ (dU 9 true (bs.drop a)) = none
        rw [hd]; rfl
      rw [hd] at hv
      obtain ⟨e, he, rfl⟩ := hv
      repeat' (first | refine w_seq ?_ | refine w_reg ?_ | refine w_end (by simp only [outsV, nth, setV, List.take_succ_cons, List.take_zero, List.length_cons, List.length_nil, Nat.zero_add, Nat.reduceAdd] <;> rfl) ?_ | refine w_off rfl ?_ | refine w_on rfl ?_ | refine w_gtrN rfl rfl (fun hc => ?_) (fun hc => ?_) | refine w_neq rfl rfl (fun hc => ?_) (fun hc => ?_) | refine w_opk rfl rfl ?_ | refine w_cond_t rfl ?_ | refine w_cond_f rfl ?_ | refine w_skip ?_)
      · refine w_store rfl rfl h3 rfl rfl (by decide) (by simp) fun h4 k1 k2 k3 => ?_
        repeat' (first | refine w_seq ?_ | refine w_reg ?_ | refine w_end (by simp only [outsV, nth, setV, List.take_succ_cons, List.take_zero, List.length_cons, List.length_nil, Nat.zero_add, Nat.reduceAdd] <;> rfl) ?_ | refine w_opk rfl rfl ?_ | refine w_ret ?_ | refine w_rt rfl ?_)
        refine ⟨0, rfl, Nat.zero_le _, fun x l e => (by rw [hN] at e; cases e), fun _ => rfl, ?_, k2⟩
        rw [hN]
        exact ⟨h1, h2.step k2 (fun j hj => by simp at hj; exact .inr (by omega)), a, ha, k1⟩
      all_goals exact absurd (by assumption) he
    | some y =>
      obtain ⟨m, r'⟩ := y
      rw [hd] at hv
      obtain ⟨rfl, hm64, hrl⟩ := hv
      obtain ⟨hr1, hr2⟩ := dU_drop hB.by_ ha hd
      have hD : aft (cNum most hm).dec (some (bs.drop a)) = if m ≤ most then some (Int.ofNat m, r') else none := by
        show dMap _ (dU 9 true (bs.drop a)) = _
        rw [hd]
        simp only [dMap]
        by_cases hc : m ≤ most
        · rw [if_pos hc, if_pos hc]
        · rw [if_neg hc, if_neg hc]
      repeat' (first | refine w_seq ?_ | refine w_reg ?_ | refine w_end (by simp only [outsV, nth, setV, List.take_succ_cons, List.take_zero, List.length_cons, List.length_nil, Nat.zero_add, Nat.reduceAdd] <;> rfl) ?_ | refine w_off rfl ?_ | refine w_on rfl ?_ | refine w_neqN rfl rfl (fun hc => ?_) (fun hc => ?_) | refine w_opq rfl rfl ?_ | refine w_cond_t rfl ?_)
      · exact absurd rfl (by assumption)
      refine w_toI (b := .ofNat most) rfl hwm ?_
      repeat' (first | refine w_seq ?_ | refine w_reg ?_ | refine w_end (by simp only [outsV, nth, setV, List.take_succ_cons, List.take_zero, List.length_cons, List.length_nil, Nat.zero_add, Nat.reduceAdd] <;> rfl) ?_ | refine w_on rfl ?_ | refine w_gtrN rfl rfl (fun hc => ?_) (fun hc => ?_) | refine w_opq rfl rfl ?_ | refine w_cond_t rfl ?_ | refine w_cond_f rfl ?_ | refine w_skip ?_)
      · have hc : most < m := by assumption
        have hN := hD
        rw [if_neg (by omega)] at hN
        refine w_store rfl rfl h3 rfl rfl (by decide) (by simp) fun h4 k1 k2 k3 => ?_
        repeat' (first | refine w_seq ?_ | refine w_reg ?_ | refine w_end (by simp only [outsV, nth, setV, List.take_succ_cons, List.take_zero, List.length_cons, List.length_nil, Nat.zero_add, Nat.reduceAdd] <;> rfl) ?_ | refine w_opk rfl rfl ?_ | refine w_ret ?_ | refine w_rt rfl ?_)
        refine ⟨0, rfl, Nat.zero_le _, fun x l e => (by rw [hN] at e; cases e), fun _ => rfl, ?_, k2⟩
        rw [hN]
        exact ⟨h1, h2.step k2 (fun j hj => by simp at hj; exact .inr (by omega)), a, ha, k1⟩
      · have hc : m ≤ most := by assumption
        rw [if_pos hc] at hD
        refine w_store rfl rfl h3 rfl rfl (by decide) (by simp) fun h4 k1 k2 k3 => ?_
        repeat' (first | refine w_seq ?_ | refine w_reg ?_ | refine w_end (by simp only [outsV, nth, setV, List.take_succ_cons, List.take_zero, List.length_cons, List.length_nil, Nat.zero_add, Nat.reduceAdd] <;> rfl) ?_ | refine w_opq rfl rfl ?_)
        refine w_toI (b := .ofNat m) rfl (wrap_i64_nat (by omega)) ?_
        repeat' (first | refine w_end (by simp only [outsV, nth, setV, List.take_succ_cons, List.take_zero, List.length_cons, List.length_nil, Nat.zero_add, Nat.reduceAdd] <;> rfl) ?_ | refine w_opk rfl rfl ?_ | refine w_ret ?_ | refine w_rt rfl ?_)
        refine ⟨m, rfl, hc, fun x l e => (by rw [hD] at e; cases e; rfl), fun e => (by rw [hD] at e; cases e), ?_, k2⟩
        rw [hD]
        exact ⟨h1, h2.step k2 (fun j hj => by simp at hj; exact .inr (by omega)), bs.length - r'.length, by omega, hr1, k1⟩

def SeenZ (Z : Nat → Prop) (h : Heap) (c : List V) (s : SeenT) : Prop := ∃ tv, c = [.int .i64 s.1, tv] ∧ RSz Z h 2 tv (s.2.map topC) ∧ s.2.length ≤ 16384
theorem SeenZ.ext {Z Z' : Nat → Prop} {S : List Nat} {h h' : Heap} {c : List V} {s : SeenT} (k : SeenZ Z h c s) (hE : ExtX S h h') (hs : ∀ j, Z j → j ∉ S) (hz : ∀ j, Z j → Z' j) : SeenZ Z' h' c s := by
  obtain ⟨tv, e, k1, k2⟩ := k
  exact ⟨tv, e, k1.ext hE hs hz, k2⟩

/-- What profile.Read tells. -/
def GotP (h' : Heap) (bs : List Nat) (pv : V) (e : Int) : Prop :=
  (∀ P, cProf.dec bs = some (P, []) → e = 0 ∧ ProfR h' pv P) ∧ ((∀ P, cProf.dec bs ≠ some (P, [])) → e = 131 ∧ pv = .nils)

theorem pread_ok (hO : OffPr O) {h0 : Heap} {b : V} {bs : List Nat} (hB : RdB h0 b bs) :
    WPc tab.get O 10 [b] h0 (fun v h' => Ext h0 h' ∧ ∃ pv e, v = .tuple [.agg [pv], .int .i64 e] ∧ GotP h' bs pv e) := by
  refine w_fn' (hO.rd _ _) rfl rfl (by simp only [c10, initV, nth] <;> rfl) ?_
  have b1 := hB.rs.one
  refine w_seq (w_reg (w_alloc fun iv h1 hV hiV hE1 => ?_))
  replace hV : Own h1 iv [.nils] := hV
  have hVl := hV.1
  have m1 := hE1.1
  repeat' (first | refine w_seq ?_ | refine w_reg ?_ | refine w_end (by simp only [outsV, nth, setV, List.take_succ_cons, List.take_zero, List.length_cons, List.length_nil, Nat.zero_add, Nat.reduceAdd] <;> rfl) ?_ | refine w_opk rfl rfl ?_)
  refine w_build [b, .int .i64 0, .bool true] rfl (by simp only [fillP, V.cells1 b1, allOne, b1]; rfl) ?_
  refine w_box rfl rfl (by simp only [V.cells, allOne, b1]; rfl) fun r h2 hR hiR hE2 => ?_
  replace hR : Own h2 r [b, .int .i64 0, .bool true] := hR
  have hRl := hR.1
  have m2 := hE2.1
  repeat' (first | refine w_seq ?_ | refine w_reg ?_ | refine w_end (by simp only [outsV, nth, setV, List.take_succ_cons, List.take_zero, List.length_cons, List.length_nil, Nat.zero_add, Nat.reduceAdd] <;> rfl) ?_ | refine w_opk rfl rfl ?_)
  refine w_alloc fun ip h3 hP hiP hE3 => ?_
  replace hP : Own h3 ip [.nils] := hP
  have hPl := hP.1
  have m3 := hE3.1
  have E3 : Ext h0 h3 := (hE1.trans hE2).trans hE3
  replace hV := (hV.ext0 hE2).ext0 hE3
  replace hR := hR.ext0 hE3
  have s0 : RdSo h0 h3 r b bs (some bs) := ⟨by omega, E3, 0, Nat.zero_le _, rfl, hR⟩
  clear hR hE1 hE2 hE3
  repeat' (first | refine w_seq ?_ | refine w_reg ?_ | refine w_end (by simp only [outsV, nth, setV, List.take_succ_cons, List.take_zero, List.length_cons, List.length_nil, Nat.zero_add, Nat.reduceAdd] <;> rfl) ?_ | refine w_opk rfl rfl ?_)
  refine w_callA [.ptr r 0 0 3, .int .i64 (.ofNat 4096)] rfl ((pnum_ok hO hB s0 (most := 4096) (by decide) (by decide)).mono fun _ h4 ⟨n0, e, ln0, p1, p0, s1, x1⟩ => ?_)
  subst e
  have m4 := x1.1
  have hT := cList_aft cSeen (by decide) p1
  replace hV := hV.ext x1 (by simp; omega)
  replace hP := hP.ext x1 (by simp; omega)
  have hrd : aft (cList cSeen 4096 (by decide)).dec (some bs) = cProf.dec bs := rfl
  rw [hrd] at hT
  generalize hTT : cProf.dec bs = total at *
  repeat' (first | refine w_end (by simp only [outsV, nth, setV, List.take_succ_cons, List.take_zero, List.length_cons, List.length_nil, Nat.zero_add, Nat.reduceAdd] <;> rfl) ?_ | refine w_opk rfl rfl ?_)
  refine w_block_cut (fun vs h => ∃ P pv lc τ m b5 b6 b7 b8 b9, vs = [b, .ptr iv 0 0 1, .int .i64 (.ofNat 0), .ptr r 0 0 3, .int .i64 (.ofNat m), b5, b6, b7, b8, b9, .ptr ip 0 0 1, .any] ∧ RdSo h0 h r b bs τ ∧ Own h iv [.nils] ∧ Own h ip [pv] ∧ Ow h 2 pv lc ∧ All2 (SeenZ (Zn2 h4 h pv) h) lc P ∧ P.length ≤ 4096 ∧ (∀ i ∈ slIds pv, h4.n ≤ i) ∧ ExtX [r, ip] h4 h ∧ rst total = τ ∧ ∀ Q l, total = some (Q, l) → P = Q) (w_loop (fun m vs h => ∃ P pv lc τ b5 b6 b7 b8 b9, vs = [b, .ptr iv 0 0 1, .int .i64 (.ofNat 0), .ptr r 0 0 3, .int .i64 (.ofNat m), b5, b6, b7, b8, b9, .ptr ip 0 0 1, .any] ∧ RdSo h0 h r b bs τ ∧ Own h iv [.nils] ∧ Own h ip [pv] ∧ Ow h 2 pv lc ∧ All2 (SeenZ (Zn2 h4 h pv) h) lc P ∧ P.length + m ≤ 4096 ∧ (∀ i ∈ slIds pv, h4.n ≤ i) ∧ ExtX [r, ip] h4 h ∧ (τ = none → total = none) ∧ ∀ l0, τ = some l0 → total = preL2 P (dRep cSeen.dec m l0)) ?_ n0 _ _ ⟨[], .nils, [], _, _, _, _, _, _, rfl, s1, hV, hP, Ow.nils _ _, All2.nil _, by simpa using ln0, by simp [slIds], ExtX.refl _ _, ?_, ?_⟩) ?_
  · rintro m vs h ⟨P, pv, lc, τ, b5, b6, b7, b8, b9, rfl, hr, hV', hP', hO', hA', hlen, hids, hX, hN, hS⟩
    have hcut : τ = none ∨ m = 0 → rst total = τ ∧ ∀ Q l, total = some (Q, l) → P = Q := by
      intro hc
      cases τ with
      | none =>
        rw [hN rfl]
        exact ⟨rfl, fun Q l e => by cases e⟩
      | some l0 =>
        have hm0 : m = 0 := by rcases hc with hc | hc; cases hc; exact hc
        subst hm0
        have e := hS l0 rfl
        simp only [dRep, preL2, List.append_nil] at e
        rw [e]
        exact ⟨rfl, fun Q l e => by cases e; rfl⟩
    cases τ with
    | none =>
      have hr0 := hr
      obtain ⟨g1, g2, a, ga, g3⟩ := hr
      obtain ⟨q1, q2⟩ := hcut (.inl rfl)
      repeat' (first | refine w_seq ?_ | refine w_reg ?_ | refine w_end (by simp only [outsV, nth, setV, List.take_succ_cons, List.take_zero, List.length_cons, List.length_nil, Nat.zero_add, Nat.reduceAdd] <;> rfl) ?_ | refine w_off rfl ?_ | refine w_rfg rfl rfl (by assumption) (by rfl) (by rfl) (by rfl) (by rfl) ?_ | refine w_on rfl ?_ | refine w_gtrN rfl rfl (fun hc => ?_) (fun hc => ?_) | refine w_opk rfl rfl ?_ | refine w_cond_f rfl ?_ | refine w_exit rfl ?_)
      all_goals exact ⟨P, pv, lc, none, m, _, _, _, _, _, rfl, hr0, hV', hP', hO', hA', by omega, hids, hX, q1, q2⟩
    | some l0 =>
      have hr0 := hr
      obtain ⟨g1, g2, a, ga, hl, g3⟩ := hr
      repeat' (first | refine w_seq ?_ | refine w_reg ?_ | refine w_end (by simp only [outsV, nth, setV, List.take_succ_cons, List.take_zero, List.length_cons, List.length_nil, Nat.zero_add, Nat.reduceAdd] <;> rfl) ?_ | refine w_off rfl ?_ | refine w_rfg rfl rfl (by assumption) (by rfl) (by rfl) (by rfl) (by rfl) ?_ | refine w_on rfl ?_ | refine w_gtrN rfl rfl (fun hc => ?_) (fun hc => ?_) | refine w_opk rfl rfl ?_ | refine w_cond_t rfl ?_ | refine w_cond_f rfl ?_ | refine w_skip ?_ | refine w_exit rfl ?_)
      · have hm0 : 0 < m := by assumption
        obtain ⟨m, rfl⟩ : ∃ k, m = k + 1 := ⟨m - 1, by omega⟩
        have hrl := g3.1
        have hA0 := hX.1
        have lpv := hO'.rs.lt
        refine w_block ?_
        repeat' (first | refine w_seq ?_ | refine w_reg ?_ | refine w_opk rfl rfl ?_)
        refine w_callA [.ptr r 0 0 3, .int .i64 (.ofNat 1099511627776)] rfl ((pnum_ok hO hB hr0 (most := 1099511627776) (by decide) (by decide)).mono fun _ h5 ⟨c1, e, lc1, u1, u0, r5, x5⟩ => ?_)
        subst e
        have m5 := x5.1
        refine w_build [.int .i64 (.ofNat c1), .nils] rfl rfl ?_
        refine w_alloc fun is_ h6 hI hiI hE6 => ?_
        refine w_store rfl rfl hI rfl rfl (by decide) (by simp) fun h7 hI2 y7 z7 => ?_
        clear hI
        have hI : Own h7 is_ [.int .i64 (.ofNat c1), .nils] := hI2
        clear hI2
        have hIl := hI.1
        have m6 := hE6.1
        have m7 := y7.1
        replace r5 := (r5.ext0 hE6).ext y7 (by simp; omega) (fun j hj => by simp at hj; omega)
        have X7 : ExtX [r] h h7 := x5.step ((hE6.mono (by simp)).trans y7) fun j hj => by simp at hj; exact .inr (by omega)
        clear x5 hE6 y7
        repeat' (first | refine w_seq ?_ | refine w_reg ?_ | refine w_end (by simp only [outsV, nth, setV, List.take_succ_cons, List.take_zero, List.length_cons, List.length_nil, Nat.zero_add, Nat.reduceAdd] <;> rfl) ?_ | refine w_opk rfl rfl ?_)
        refine w_callA [.ptr r 0 0 3, .int .i64 (.ofNat 16384)] rfl ((pnum_ok hO hB r5 (most := 16384) (by decide) (by decide)).mono fun _ h8 ⟨k, e, lk, v1, v0, r8, x8⟩ => ?_)
        subst e
        have m8 := x8.1
        have X8 := X7.trans x8
        replace hI := hI.ext x8 (by simp; omega)
        have hT2 := cList_aft cTop (by decide) v1
        generalize hσ1 : rst (aft (cNum 1099511627776 (by decide)).dec (some l0)) = σ1 at *
        generalize hTT2 : aft (cList cTop 16384 (by decide)).dec σ1 = tot2 at *
        clear r5 X7 x8
        have hb8 := hB.rs.ext0 r8.base.2.1
        refine w_opq rfl rfl ?_
        refine w_end (by simp only [outsV, nth, setV, List.length_cons, List.length_nil] <;> rfl) ?_
        refine w_seq (WPx.mono (N := fun vs h' => ∃ ρ b7', vs = [b, .ptr iv 0 0 1, .int .i64 (.ofNat 0), .ptr r 0 0 3, .int .i64 (.ofNat (m + 1)), .bool true, .int .i64 (.ofNat k), b7', b8, .ptr is_ 0 0 2, .ptr ip 0 0 1, .any] ∧ RdSo h0 h' r b bs ρ ∧ ExtX [r] h8 h' ∧ (ρ = none → tot2 = none) ∧ ∀ l2, ρ = some l2 → 2 * k ≤ l2.length ∧ tot2 = dRep cTop.dec k l2) ?_ (fun vs' h9 hq => ?_) fun _ _ x => x)
        · cases hd2 : aft (cNum 16384 (by decide)).dec σ1 with
          | none =>
            have hk0 : k = 0 := v0 hd2
            subst hk0
            rw [hd2] at hT2 r8
            have r80 := r8
            obtain ⟨w1, w2, a, wa, w3⟩ := r8
            repeat' (first | refine w_seq ?_ | refine w_reg ?_ | refine w_opq rfl rfl ?_)
            refine w_mulN (a := 2) (b := 0) (by rfl) rfl (by decide) ?_
            repeat' (first | refine w_rf rfl (by assumption) (by rfl) (by rfl) (by rfl) ?_ | refine w_len rfl (by assumption) ?_ | refine w_opq rfl rfl ?_)
            refine w_subN rfl rfl (by simpa using wa) (by have := hB.len; simp; omega) ?_
            repeat' (first | refine w_reg ?_ | refine w_end (by simp only [outsV, nth, setV, List.take_succ_cons, List.take_zero, List.length_cons, List.length_nil, Nat.zero_add, Nat.reduceAdd] <;> rfl) ?_ | refine w_gtrN rfl rfl (fun hc => ?_) (fun hc => ?_) | refine w_opq rfl rfl ?_ | refine w_cond_t rfl ?_ | refine w_cond_f rfl ?_ | refine w_skip ?_)
            · exact absurd (show _ < 2 * 0 by assumption) (by omega)
            · exact ⟨none, _, rfl, r80, ExtX.refl _ _, fun _ => hT2, fun l2 e => by cases e⟩
          | some y =>
            obtain ⟨x, l2⟩ := y
            rw [hd2] at hT2 r8
            have r80 := r8
            obtain ⟨w1, w2, a, wa, wl, w3⟩ := r8
            have hlen2 : l2.length = bs.length - a := by rw [wl, List.length_drop]
            repeat' (first | refine w_seq ?_ | refine w_reg ?_ | refine w_opq rfl rfl ?_)
            refine w_mulN (a := 2) (b := k) (by rfl) rfl (by omega) ?_
            repeat' (first | refine w_rf rfl (by assumption) (by rfl) (by rfl) (by rfl) ?_ | refine w_len rfl (by assumption) ?_ | refine w_opq rfl rfl ?_)
            refine w_subN rfl rfl (by simpa using wa) (by have := hB.len; simp; omega) ?_
            repeat' (first | refine w_reg ?_ | refine w_end (by simp only [outsV, nth, setV, List.take_succ_cons, List.take_zero, List.length_cons, List.length_nil, Nat.zero_add, Nat.reduceAdd] <;> rfl) ?_ | refine w_gtrN rfl rfl (fun hc => ?_) (fun hc => ?_) | refine w_opq rfl rfl ?_ | refine w_cond_t rfl ?_ | refine w_cond_f rfl ?_ | refine w_skip ?_)
            · have hc : (bs.map byteC).length - a < 2 * k := by assumption
              rw [List.length_map] at hc
              refine w_store rfl rfl w3 rfl rfl (by decide) (by simp) fun h9 k1 k2 k3 => ?_
              repeat' (first | refine w_end (by simp only [outsV, nth, setV, List.take_succ_cons, List.take_zero, List.length_cons, List.length_nil, Nat.zero_add, Nat.reduceAdd] <;> rfl) ?_)
              refine ⟨none, _, rfl, ⟨w1, w2.step k2 (fun j hj => by simp at hj; exact .inr (by omega)), a, wa, k1⟩, k2, fun _ => ?_, fun l2 e => by cases e⟩
              rw [hT2]
              exact (dRep_top k l2).2 (by omega)
            · have hc : 2 * k ≤ (bs.map byteC).length - a := by assumption
              rw [List.length_map] at hc
              exact ⟨some l2, _, rfl, r80, ExtX.refl _ _, (fun e => by cases e), fun l e => by cases e; exact ⟨by omega, hT2⟩⟩
        obtain ⟨ρ, b7', rfl, r9, x9, t1, t2⟩ := hq
        have m9 := x9.1
        replace hI := hI.ext x9 (by simp; omega)
        have X9 := X8.trans x9
        clear r8 x9 X8 hT2 v0 v1
        refine w_seq (w_block_cut (fun vs h' => ∃ ρ tl tv kk d7 d8, vs = [b, .ptr iv 0 0 1, .int .i64 (.ofNat 0), .ptr r 0 0 3, .int .i64 (.ofNat (m + 1)), .bool true, .int .i64 (.ofNat kk), d7, d8, .ptr is_ 0 0 2, .ptr ip 0 0 1, .any] ∧ RdSo h0 h' r b bs ρ ∧ Own h' is_ [.int .i64 (.ofNat c1), tv] ∧ Ow h' 2 tv (tl.map topC) ∧ tl.length ≤ 16384 ∧ (∀ i ∈ slIds tv, h9.n ≤ i) ∧ ExtX [r, is_] h9 h' ∧ rst tot2 = ρ ∧ ∀ x l, tot2 = some (x, l) → tl = x)
          (w_loop (fun kk vs h' => ∃ ρ tl tv d7 d8, vs = [b, .ptr iv 0 0 1, .int .i64 (.ofNat 0), .ptr r 0 0 3, .int .i64 (.ofNat (m + 1)), .bool true, .int .i64 (.ofNat kk), d7, d8, .ptr is_ 0 0 2, .ptr ip 0 0 1, .any] ∧ RdSo h0 h' r b bs ρ ∧ Own h' is_ [.int .i64 (.ofNat c1), tv] ∧ Ow h' 2 tv (tl.map topC) ∧ tl.length + kk ≤ 16384 ∧ (∀ i ∈ slIds tv, h9.n ≤ i) ∧ ExtX [r, is_] h9 h' ∧ (ρ = none → tot2 = none) ∧ ∀ l2, ρ = some l2 → 2 * kk ≤ l2.length ∧ tot2 = preL2 tl (dRep cTop.dec kk l2)) ?_ k _ _ ⟨ρ, [], .nils, _, _, rfl, r9, hI, Ow.nils _ _, by simpa using lk, by simp [slIds], ExtX.refl _ _, t1, fun l2 e => ⟨(t2 l2 e).1, by rw [preL2_nil]; exact (t2 l2 e).2⟩⟩) ?_)
        · clear hI r9 t1 t2
          rintro kk vs h' ⟨ρ, tl, tv, d7, d8, rfl, r9, hI, ho, hl2, hid2, hx2, t1, t2⟩
          have hcut2 : ρ = none ∨ kk = 0 → rst tot2 = ρ ∧ ∀ x l, tot2 = some (x, l) → tl = x := by
            intro hc
            cases ρ with
            | none =>
              rw [t1 rfl]
              exact ⟨rfl, fun Q l e => by cases e⟩
            | some l2 =>
              have hk0 : kk = 0 := by rcases hc with hc | hc; cases hc; exact hc
              subst hk0
              have e := (t2 l2 rfl).2
              simp only [dRep, preL2, List.append_nil] at e
              rw [e]
              exact ⟨rfl, fun Q l e => by cases e; rfl⟩
          cases ρ with
          | none =>
            have r90 := r9
            obtain ⟨g1, g2, a, ga, g3⟩ := r9
            obtain ⟨q1, q2⟩ := hcut2 (.inl rfl)
            repeat' (first | refine w_seq ?_ | refine w_reg ?_ | refine w_end (by simp only [outsV, nth, setV, List.take_succ_cons, List.take_zero, List.length_cons, List.length_nil, Nat.zero_add, Nat.reduceAdd] <;> rfl) ?_ | refine w_off rfl ?_ | refine w_rfg rfl rfl (by assumption) (by rfl) (by rfl) (by rfl) (by rfl) ?_ | refine w_on rfl ?_ | refine w_gtrN rfl rfl (fun hc => ?_) (fun hc => ?_) | refine w_opk rfl rfl ?_ | refine w_cond_f rfl ?_ | refine w_exit rfl ?_)
            all_goals exact ⟨none, tl, tv, kk, _, _, rfl, r90, hI, ho, by omega, hid2, hx2, q1, q2⟩
          | some l2 =>
            have r90 := r9
            obtain ⟨g1, g2, a, ga, gl, g3⟩ := r9
            repeat' (first | refine w_seq ?_ | refine w_reg ?_ | refine w_end (by simp only [outsV, nth, setV, List.take_succ_cons, List.take_zero, List.length_cons, List.length_nil, Nat.zero_add, Nat.reduceAdd] <;> rfl) ?_ | refine w_off rfl ?_ | refine w_rfg rfl rfl (by assumption) (by rfl) (by rfl) (by rfl) (by rfl) ?_ | refine w_on rfl ?_ | refine w_gtrN rfl rfl (fun hc => ?_) (fun hc => ?_) | refine w_opk rfl rfl ?_ | refine w_cond_t rfl ?_ | refine w_cond_f rfl ?_ | refine w_skip ?_ | refine w_exit rfl ?_)
            · have hk0 : 0 < kk := by assumption
              obtain ⟨kk, rfl⟩ : ∃ j, kk = j + 1 := ⟨kk - 1, by omega⟩
              obtain ⟨hl3, hT3⟩ := t2 l2 rfl
              have hll : l2.length = bs.length - a := by rw [gl, List.length_drop]
              have ha1 : a < bs.length := by omega
              have ha2 : a + 1 < bs.length := by omega
              have hbl := hB.len
              have hl2e : l2 = bs[a] :: bs[a + 1] :: bs.drop (a + 1 + 1) := by
                rw [gl, List.drop_eq_getElem_cons ha1, List.drop_eq_getElem_cons ha2]
              have hrs := hB.rs.ext0 g2
              have hb1 := hB.by_ _ (List.getElem_mem ha1)
              have hb2 := hB.by_ _ (List.getElem_mem ha2)
              have hA1 := slot_at (j := a) hrs (by simpa using ha1)
              have hA2 := slot_at (j := a + 1) hrs (by simpa using ha2)
              rw [List.getElem_map] at hA1 hA2
              have hup := dRep_up (d := cTop.dec) (x := (Int.ofNat bs[a], Int.ofNat bs[a + 1])) hT3 (fun y l e => by rw [hl2e] at e; cases e; rfl)
              have hrd2 : rst (cTop.dec l2) = some (bs.drop (a + 1 + 1)) := by rw [hl2e]; rfl
              rw [hrd2] at hup
              generalize bs[a] = x at *
              generalize bs[a + 1] = y at *
              have hrl2 := g3.1
              have hIl2 := hI.1
              have ltv := ho.rs.lt
              have hh9 := hx2.1
              refine w_block ?_
              repeat' (first | refine w_seq ?_ | refine w_reg ?_ | refine w_rf rfl (by assumption) (by rfl) (by rfl) (by rfl) ?_ | refine w_opk rfl rfl ?_)
              refine w_iadrS rfl rfl hrs (by simpa using ha1) ?_
              refine w_load1 (c := []) rfl hA1 rfl ?_
              repeat' (first | refine w_rf rfl (by assumption) (by rfl) (by rfl) (by rfl) ?_ | refine w_addN rfl rfl (by omega) ?_ | refine w_opk rfl rfl ?_)
              refine w_iadrS rfl rfl hrs (by simpa using ha2) ?_
              refine w_load1 (c := []) rfl hA2 rfl ?_
              refine w_build [.int .u8 (.ofNat x), .int .u8 (.ofNat y)] rfl rfl ?_
              refine w_push rfl rfl rfl rfl (fun _ => rfl) ho (by simp; omega) fun aa tv' h10 hv' hf' => ?_
              have hI2 := hI.ext hf'.1 (fun e => by have := hid2 is_ e; omega)
              have hr2 := g3.ext hf'.1 (fun e => by have := hid2 r e; omega)
              repeat' (first | refine w_opk rfl rfl ?_)
              refine w_store rfl rfl hI2 (by rw [V.cells1 hv'.rs.one]; rfl) (by rw [V.cells1 hv'.rs.one]; simp only [allOne, hv'.rs.one]) (by decide) (by simp) fun h11 u1 u2 u3 => ?_
              rw [V.cells1 hv'.rs.one] at u1
              replace u1 : Own h11 is_ [.int .i64 (.ofNat c1), tv'] := u1
              have hr3 := hr2.ext u2 (by simp; omega)
              have hnew : ∀ i ∈ slIds tv', h9.n ≤ i := fun i hi => by
                rcases hf'.2 i hi with e | e
                · exact hid2 i e
                · omega
              clear hI2 hr2 hA1 hA2
              repeat' (first | refine w_reg ?_ | refine w_end (by simp only [outsV, nth, setV, List.take_succ_cons, List.take_zero, List.length_cons, List.length_nil, Nat.zero_add, Nat.reduceAdd] <;> rfl) ?_ | refine w_rf rfl (by assumption) (by rfl) (by rfl) (by rfl) ?_ | refine w_addN rfl rfl (by omega) ?_ | refine w_opk rfl rfl ?_)
              refine w_store rfl rfl hr3 rfl rfl (by decide) (by simp) fun h12 y1 y2 y3 => ?_
              repeat' (first | refine w_reg ?_ | refine w_end (by simp only [outsV, nth, setV, List.take_succ_cons, List.take_zero, List.length_cons, List.length_nil, Nat.zero_add, Nat.reduceAdd] <;> rfl) ?_ | refine w_opq rfl rfl ?_)
              refine w_subN (b := 1) rfl (by rfl) (by omega) (by omega) ?_
              repeat' (first | refine w_end (by simp only [outsV, nth, setV, List.take_succ_cons, List.take_zero, List.length_cons, List.length_nil, Nat.zero_add, Nat.reduceAdd] <;> rfl) ?_ | refine w_opk rfl rfl ?_)
              have X12 : ExtX [r, is_] h9 h12 := ((hx2.step hf'.1 fun j hj => .inr (hid2 j hj)).step u2 fun j hj => by simp at hj; exact .inl (by simp [hj])).step y2 fun j hj => by simp at hj; exact .inl (by simp [hj])
              have G12 : Ext h0 h12 := ((g2.step hf'.1 fun j hj => .inr (by have := hid2 j hj; omega)).step u2 fun j hj => by simp at hj; exact .inr (by omega)).step y2 fun j hj => by simp at hj; exact .inr (by omega)
              refine ⟨kk, by omega, some (bs.drop (a + 1 + 1)), tl ++ [(Int.ofNat x, Int.ofNat y)], tv', _, _, rfl, ⟨g1, G12, a + 2, by omega, rfl, y1⟩, u1.ext y2 (by simp; omega), ?_, by simp; omega, hnew, X12, (fun e => by cases e), fun l2' e => ?_⟩
              · rw [List.map_append]
                exact (hv'.ext u2 (fun j hj e => by simp at e; have := hnew j hj; omega)).ext y2 (fun j hj e => by simp at e; have := hnew j hj; omega)
              · cases e
                exact ⟨by rw [List.length_drop]; omega, hup.2 _ rfl⟩
            · have hk0 : kk ≤ 0 := by assumption
              obtain ⟨q1, q2⟩ := hcut2 (.inr (by omega))
              exact ⟨some l2, tl, tv, kk, _, _, rfl, r90, hI, ho, by omega, hid2, hx2, q1, q2⟩
        · rintro vs' h10 ⟨ρ', tl, tv, kk, d7, d8, rfl, r10, hI', ho', htl, hid2, hx2, q1, q2⟩
          clear hI r9 t1 t2
          have m10 := hx2.1
          have ltv := ho'.rs.lt
          have hP10 := (hP'.ext X9 (by simp; omega)).ext hx2 (by simp; omega)
          have hV10 := (hV'.ext X9 (by simp; omega)).ext hx2 (by simp; omega)
          have X10 : ExtX [r] h h10 := X9.step hx2 fun j hj => by
            simp at hj
            rcases hj with hj | hj
            · exact .inl (by simp [hj])
            · exact .inr (by omega)
          have hO10 := hO'.ext X10 (fun j hj e => by simp at e; have := hids j hj; omega)
          have hA10 : All2 (SeenZ (Zn2 h4 h pv) h10) lc P := hA'.mono fun x y _ _ q => q.ext X10 (fun j hj e => by simp at e; have := hj.1; omega) fun j hj => hj
          have hone : allOne [.int .i64 (.ofNat c1), tv] = true := by simp only [allOne, ho'.rs.one]; rfl
          have hup := dRep_up (d := cSeen.dec) (x := (Int.ofNat c1, tl)) (hS l0 rfl) (fun y l e => by
            have e : aft cSeen.dec (some l0) = some (y, l) := e
            unfold cSeen at e
            obtain ⟨⟨_, e0⟩, e⟩ := aft_seq e
            rw [hσ1, hTT2] at e
            rw [u1 _ _ e0, q2 _ _ e])
          have hrs1 : rst (cSeen.dec l0) = ρ' := by
            show rst (aft cSeen.dec (some l0)) = ρ'
            unfold cSeen
            rw [rst_seq, hσ1, hTT2, q1]
          rw [hrs1] at hup
          have hrl3 := r10.base.2.2
          repeat' (first | refine w_reg ?_ | refine w_rf rfl (by assumption) (by rfl) (by rfl) (by rfl) ?_)
          refine w_loadA rfl (hI'.at rfl) rfl ?_
          refine w_push rfl rfl rfl hone (fun _ => rfl) hO10 (by have := hA10.1; omega) fun aa pv' h11 hv' hf' => ?_
          have m11 := hf'.1.1
          have hP11 := hP10.ext hf'.1 (fun e => by have := hids ip e; omega)
          repeat' (first | refine w_opk rfl rfl ?_)
          refine w_store rfl rfl hP11 (by rw [V.cells1 hv'.rs.one]; rfl) (by rw [V.cells1 hv'.rs.one]; simp only [allOne, hv'.rs.one]) (by decide) (by simp) fun h12 y1 y2 y3 => ?_
          rw [V.cells1 hv'.rs.one] at y1
          replace y1 : Own h12 ip [pv'] := y1
          have m12 := y2.1
          repeat' (first | refine w_reg ?_ | refine w_end (by simp only [outsV, nth, setV, List.take_succ_cons, List.take_zero, List.length_cons, List.length_nil, Nat.zero_add, Nat.reduceAdd] <;> rfl) ?_ | refine w_opq rfl rfl ?_)
          refine w_subN (b := 1) rfl (by rfl) (by omega) (by omega) ?_
          repeat' (first | refine w_end (by simp only [outsV, nth, setV, List.take_succ_cons, List.take_zero, List.length_cons, List.length_nil, Nat.zero_add, Nat.reduceAdd] <;> rfl) ?_ | refine w_opk rfl rfl ?_)
          have hnew : ∀ i ∈ slIds pv', h4.n ≤ i := fun i hi => by
            rcases hf'.2 i hi with e | e
            · exact hids i e
            · omega
          have hz : ∀ j, h4.n ≤ j → j < h10.n → j ∉ slIds pv → Zn2 h4 h12 pv' j := fun j h1 h2 h3 => ⟨h1, by omega, fun e => by
            rcases hf'.2 j e with e | e
            · exact h3 e
            · omega⟩
          have hEE : ∀ j, h4.n ≤ j → j ∉ slIds pv → j ∉ slIds pv ++ [ip] := fun j h1 h2 e => by
            rcases List.mem_append.1 e with e | e
            · exact h2 e
            · simp at e; omega
          have X12 : ExtX (slIds pv ++ [ip]) h10 h12 := (hf'.1.mono fun j hj => by simp [hj]).trans (y2.mono fun j hj => by simp at hj; simp [hj])
          have ntv : ∀ j ∈ slIds tv, h4.n ≤ j ∧ j < h10.n ∧ j ∉ slIds pv := fun j hj => ⟨by have := hid2 j hj; omega, ltv j hj, fun e => by have := hid2 j hj; have := lpv j e; omega⟩
          refine ⟨m, by omega, P ++ [(Int.ofNat c1, tl)], pv', lc ++ [[.int .i64 (.ofNat c1), tv]], ρ', _, _, _, _, _, rfl, (r10.ext hf'.1 (fun e => by have := hids r e; omega) (fun j hj => by have := hids j hj; omega)).ext y2 (by simp; omega) (fun j hj => by simp at hj; omega), (hV10.ext hf'.1 (fun e => by have := hids iv e; omega)).ext y2 (by simp; omega), y1, hv'.ext y2 (fun j hj e => by simp at e; have := hnew j hj; omega), All2.push ?_ ?_, by simp; omega, hnew, ?_, hup.1, hup.2⟩
          · exact hA10.mono fun x y _ _ q => q.ext X12 (fun j hj => hEE j hj.1 hj.2.2) fun j hj => hz j hj.1 (by have := hj.2.1; have := X10.1; omega) hj.2.2
          · refine ⟨tv, rfl, ⟨ho'.rs.ext X12 fun id off len ver e f hv => ?_, fun j hj => ?_⟩, htl⟩
            · obtain ⟨g1, g2, g3⟩ := ntv id (by rw [hv]; simp [slIds])
              exact hEE id g1 g3
            · obtain ⟨g1, g2, g3⟩ := ntv j hj
              exact hz j g1 g2 g3
          · exact ((hX.step X10 fun j hj => by simp at hj; exact .inl (by simp [hj])).step hf'.1 fun j hj => .inr (hids j hj)).step y2 fun j hj => by simp at hj; exact .inl (by simp [hj])
      · have hm0 : m ≤ 0 := by assumption
        obtain ⟨q1, q2⟩ := hcut (.inr (by omega))
        exact ⟨P, pv, lc, some l0, m, _, _, _, _, _, rfl, hr0, hV', hP', hO', hA', by omega, hids, hX, q1, q2⟩
  · intro e
    rw [hT]
    cases hd : aft (cNum 4096 (by decide)).dec (some bs) with
    | none => rfl
    | some y => rw [hd] at e; cases e
  · intro l0 e
    rw [hT]
    cases hd : aft (cNum 4096 (by decide)).dec (some bs) with
    | none => rw [hd] at e; cases e
    | some y =>
      obtain ⟨n, l⟩ := y
      rw [hd] at e
      cases e
      exact (preL2_nil _).symm
  · rintro vs h ⟨P, pv, lc, τ, m, b5, b6, b7, b8, b9, rfl, hr, hV', hP', hO', hA', hlen, hids, hX, q1, q2⟩
    have hE := hr.base.2.1
    have hVl' := hV'.1
    have hb1 := hB.rs.ext0 hE
    have lpv := hO'.rs.lt
    cases τ with
    | none =>
      obtain ⟨c1, c2, a, ha, c3⟩ := hr
      have hne : ∀ Q, cProf.dec bs ≠ some (Q, []) := fun Q e => by
        rw [← hTT, e] at q1
        cases q1
      repeat' (first | refine w_seq ?_ | refine w_reg ?_ | refine w_end (by simp only [outsV, nth, setV, List.take_succ_cons, List.take_zero, List.length_cons, List.length_nil, Nat.zero_add, Nat.reduceAdd] <;> rfl) ?_ | refine w_off rfl ?_ | refine w_rf rfl (by assumption) (by rfl) (by rfl) (by rfl) ?_ | refine w_opk rfl rfl ?_ | refine w_cond_t rfl ?_)
      refine w_build [.nils] rfl rfl ?_
      refine w_store rfl rfl hV' rfl rfl (by decide) (by decide) fun h13 hV2 yv zv => ?_
      repeat' (first | refine w_end (by simp only [outsV, nth, setV, List.take_succ_cons, List.take_zero, List.length_cons, List.length_nil, Nat.zero_add, Nat.reduceAdd] <;> rfl) ?_ | refine w_opk rfl rfl ?_ | refine w_ret ?_)
      have hrv : rd h13 true 1 (.ptr iv 0 0 1) = some (.agg [.nils]) := rd_own hV2 rfl rfl
      refine w_rt (l := [.agg [.nils], .int .i64 131]) (by
        show (match (rd h13 true 1 (.ptr iv 0 0 1)), (some [.int .i64 (.ofNat 131)] : Option (List V)) with
          | some v, some l => some (v :: l)
          | _, _ => none) = _
        rw [hrv]
        rfl) ?_
      refine ⟨hE.step yv fun j hj => by simp at hj; exact .inr (by omega), .nils, 131, rfl, fun Q e => absurd e (hne Q), fun _ => ⟨rfl, rfl⟩⟩
    | some l =>
      obtain ⟨c1, c2, a, ha, hl, c3⟩ := hr
      subst hl
      have hx : ∃ Q, total = some (Q, bs.drop a) := by
        cases total with
        | none => cases q1
        | some y => obtain ⟨Q, l⟩ := y; cases q1; exact ⟨Q, rfl⟩
      obtain ⟨Q, hx⟩ := hx
      obtain rfl := q2 _ _ hx
      repeat' (first | refine w_seq ?_ | refine w_reg ?_ | refine w_end (by simp only [outsV, nth, setV, List.take_succ_cons, List.take_zero, List.length_cons, List.length_nil, Nat.zero_add, Nat.reduceAdd] <;> rfl) ?_ | refine w_rf rfl (by assumption) (by rfl) (by rfl) (by rfl) ?_ | refine w_rfg rfl rfl (by assumption) (by rfl) (by rfl) (by rfl) (by rfl) ?_ | refine w_on rfl ?_ | refine w_len rfl (by assumption) ?_ | refine w_neqN rfl rfl (fun hc => ?_) (fun hc => ?_) | refine w_opk rfl rfl ?_ | refine w_cond_t rfl ?_ | refine w_cond_f rfl ?_ | refine w_skip ?_)
      · have hc : a ≠ (bs.map byteC).length := by assumption
        rw [List.length_map] at hc
        have hne : ∀ Q, cProf.dec bs ≠ some (Q, []) := fun Q' e => by
          rw [hTT, hx] at e
          simp only [Option.some.injEq, Prod.mk.injEq] at e
          have e2 := congrArg List.length e.2
          simp at e2
          omega
        refine w_build [.nils] rfl rfl ?_
        refine w_store rfl rfl hV' rfl rfl (by decide) (by decide) fun h13 hV2 yv zv => ?_
        repeat' (first | refine w_end (by simp only [outsV, nth, setV, List.take_succ_cons, List.take_zero, List.length_cons, List.length_nil, Nat.zero_add, Nat.reduceAdd] <;> rfl) ?_ | refine w_opk rfl rfl ?_ | refine w_ret ?_)
        have hrv : rd h13 true 1 (.ptr iv 0 0 1) = some (.agg [.nils]) := rd_own hV2 rfl rfl
        refine w_rt (l := [.agg [.nils], .int .i64 131]) (by
          show (match (rd h13 true 1 (.ptr iv 0 0 1)), (some [.int .i64 (.ofNat 131)] : Option (List V)) with
            | some v, some l => some (v :: l)
            | _, _ => none) = _
          rw [hrv]
          rfl) ?_
        refine ⟨hE.step yv fun j hj => by simp at hj; exact .inr (by omega), .nils, 131, rfl, fun Q e => absurd e (hne Q), fun _ => ⟨rfl, rfl⟩⟩
      · have hc : a = (bs.map byteC).length := by assumption
        rw [List.length_map] at hc
        rw [List.drop_of_length_le (by omega)] at hx
        refine w_loadA rfl (hP'.at rfl) rfl ?_
        refine w_store rfl rfl hV' rfl (by simp only [V.cells, List.take_succ_cons, List.take_zero, allOne, hO'.rs.one]) (by decide) (by decide) fun h13 hV2 yv zv => ?_
        repeat' (first | refine w_end (by simp only [outsV, nth, setV, List.take_succ_cons, List.take_zero, List.length_cons, List.length_nil, Nat.zero_add, Nat.reduceAdd] <;> rfl) ?_ | refine w_opk rfl rfl ?_ | refine w_ret ?_)
        have hrv : rd h13 true 1 (.ptr iv 0 0 1) = some (.agg [pv]) := rd_own hV2 rfl rfl
        refine w_rt (l := [.agg [pv], .int .i64 0]) (by
          show (match (rd h13 true 1 (.ptr iv 0 0 1)), (some [.int .i64 (.ofNat 0)] : Option (List V)) with
            | some v, some l => some (v :: l)
            | _, _ => none) = _
          rw [hrv]
          rfl) ?_
        refine ⟨hE.step yv fun j hj => by simp at hj; exact .inr (by omega), pv, 0, rfl, fun Q e => ⟨rfl, ?_⟩, fun h => absurd (hTT.trans hx) (h P)⟩
        rw [hTT, hx] at e
        simp only [Option.some.injEq, Prod.mk.injEq, and_true] at e
        subst e
        refine ⟨lc, hO'.rs.ext yv fun id off len ver e f hv => ?_, hA'.1, by omega, fun i x s hx hs => ?_⟩
        · have := hids id (by rw [hv]; simp [slIds])
          simp; omega
        · obtain ⟨tv, e, k1, k2⟩ := hA'.2 i x s hx hs
          refine ⟨tv, e, k1.1.ext yv fun id off len ver e f hv => ?_, by omega⟩
          have := (k1.2 id (by rw [hv]; simp [slIds])).1
          simp; omega
end AmT
