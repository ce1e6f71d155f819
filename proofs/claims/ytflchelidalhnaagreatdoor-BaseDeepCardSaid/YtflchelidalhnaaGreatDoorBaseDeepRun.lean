/-
  The interpreter under the abstract machine, part BaseDeepRun. Conditions: those that each theorem states.
-/
import Derived.Test.YtflchelidalhnaaGreatDoorIE
namespace AmT
open Go Am
set_option maxRecDepth 100000
set_option maxHeartbeats 4000000
set_option linter.unusedSimpArgs false
set_option linter.unusedVariables false
variable {O : CallF}
structure OffLaw (O : CallF) : Prop where
 pl : OffPl O
 it : ∀ a h, O 16 a h = none
 aw : ∀ {h : Heap}, WPc tab.get O 20 [] h (fun r h' => r = .bool true ∧ Ext h h')
theorem baseDeep_ok (hO : OffLaw O) (hL : ∀ a h, O 5 a h = none) (t : TextOk O textDeep (modC modDeep) modDeep) {n : Nat} (hn : n < 256) {h0 : Heap} :
  WPc tab.get O 5 [.int .u8 (.ofNat n)] h0 (fun r _ => r = .bool true) := by
 refine w_fn' (hL _ _) rfl rfl (by simp only [c5, initV, nth] <;> rfl) ?_
 have hk : n % 100 < 100 := Nat.mod_lt _ (by decide)
 repeat' (first | refine w_seq ?_ | refine w_reg ?_ | refine w_e ?_ | refine w_opk rfl rfl ?_)
 rw [show IntKind.i64.wrap ((Int.ofNat n).tmod (Int.ofNat 100)) = Int.ofNat (n % 100) from wrap_i64_nat (by omega)]
 generalize n % 100 = k at *
 refine w_bslice [[.int .i64 (.ofNat k)]] rfl rfl rfl rfl (by simp) fun v1 h1 hv1 hf1 => ?_
 refine w_callA [v1] rfl ((ints_ok hO.it (l := [Int.ofNat k]) hv1.rs (by simp)).mono fun w h2 ⟨hw, hE2, hids⟩ => ?_)
 have hov : (begT modDeep 0 partDeep [] goT [numV' (Int.ofNat k)] 5 1).over = 0 := rfl
 refine w_callA [.str textDeep, w, .int .i64 (.ofNat 5000)] rfl ((played_ok hO.pl (Z := fun i => i < h2.n) (p := partDeep) (args := [numV' (Int.ofNat k)]) t (fun i hi => hi) rfl rfl ⟨hw.rs, hw.rs.lt⟩ (vas_nums [Int.ofNat k]) (fun a ha => by
   rw [List.mem_singleton.1 ha]
   exact okNum ⟨by show _ ≤ (k : Int); omega, by show (k : Int) < _; omega⟩) (by simp) hov (by decide)).mono fun _ h3 ⟨c, e, hT, hE3⟩ => ?_)
 subst e
 have hts := hT.shape
 replace hT : TrnI (fun i => i < h3.n) h3 c (turnDeep k) := hT.mono fun j _ hj => hj
 repeat' (first | refine w_opk rfl rfl ?_)
 refine w_alloc fun iT h4 hTo hiT hE4 => ?_
 refine w_store rfl rfl hTo hts.1 hts.2 (by decide) (by simp) fun h5 hT5 hE5 hn5 => ?_
 have E5 : Ext h3 h5 := hE4.step hE5 fun q hq => by simp at hq; exact .inr (by omega)
 replace hT5 : Own h5 iT c := by
  have : splice [V.nils, V.nils, nI 0, nI 0, nI 0, nB 0, nI 0, nI 0, V.nils] 0 c = c := over_all (by rw [hts.1]; rfl)
  rw [← this]; exact hT5
 replace hT := hT.ext0 E5
 repeat' (first | refine w_seq ?_ | refine w_reg ?_ | refine w_e ?_ | refine w_addN rfl rfl (by omega) ?_ | refine w_opk rfl rfl ?_ | refine w_cond_f rfl ?_ | refine w_skip ?_)
 by_cases hk48 : 48 < k
 ·rw [show iLt (Int.ofNat 50) (Int.ofNat (k + 2)) = true from by rw [iLt_eq]; exact decide_eq_true (by show (50 : Int) < ((k + 2 : Nat) : Int); omega)]
  obtain ⟨u, eT⟩ := deep_trap k hk48 (by omega)
  rw [eT] at hT
  obtain ⟨vf, ve, vs, lf, le, ls, rfl, tf, lfl, sf, te, ae, tst, vst, _⟩ := hT
  have hle : le = [] := List.eq_nil_of_length_eq_zero ae.1
  subst hle
  have rte := te.1
  replace hT5 : Own h5 iT [vf, ve, .int .i64 5, .int .i64 (IntKind.i64.wrap (1 - spawns [eD1])), .int .i64 u, .int .u8 4, .int .i64 6, .int .i64 0, vs] := hT5
  repeat' (first | refine w_seq ?_ | refine w_reg ?_ | refine w_rf rfl (by assumption) (by rfl) (by rfl) (by rfl) ?_ | refine w_rfg rfl rfl (by assumption) (by rfl) (by rfl) (by rfl) (by rfl) ?_ | refine w_on rfl ?_ | refine w_len rfl (by assumption) ?_ | refine w_opk rfl rfl ?_ | refine w_cond_t rfl ?_)
  refine w_callA [] rfl (hO.aw.mono fun _ h6 ⟨e, hE6⟩ => ?_)
  subst e
  repeat' (first | refine w_e ?_ | refine w_opk rfl rfl ?_ | refine w_ret ?_ | refine w_rt rfl ?_)
  rfl
 ·rw [show iLt (Int.ofNat 50) (Int.ofNat (k + 2)) = false from by rw [iLt_eq]; exact decide_eq_false (by show ¬ (50 : Int) < ((k + 2 : Nat) : Int); omega)]
  obtain ⟨u, eT⟩ := deep_ok k (by omega)
  rw [eT] at hT
  obtain ⟨vf, ve, vs, lf, le, ls, rfl, tf, lfl, sf, te, ae, tst, vst, _⟩ := hT
  have hl2 : le.length = 2 := ae.1
  obtain ⟨c1, c2, rfl⟩ : ∃ c1 c2, le = [c1, c2] := by
   match le, hl2 with
   | [a, b], _ => exact ⟨a, b, rfl⟩
  have rte := te.1
  obtain ⟨av, la, rfl, ra, va⟩ := ae.2 1 c2 eD2 rfl rfl
  have hla : la.length = 1 := va.len
  obtain ⟨c7, rfl⟩ : ∃ c7, la = [c7] := by
   match la, hla with
   | [a], _ => exact ⟨a, rfl⟩
  unfold VasR at va
  obtain ⟨c7', lc', e7, v7, _⟩ := va
  cases e7
  unfold numV' VaR at v7
  obtain ⟨vv, lc7, rfl, _⟩ := v7
  have rav := ra.1
  replace hT5 : Own h5 iT [vf, ve, .int .i64 5, .int .i64 1, .int .i64 u, .int .u8 1, .int .i64 0, .int .i64 0, vs] := hT5
  have hS2 := slot_at (j := 1) rte (by simp)
  have hS3 := slot_at (j := 0) rav (by simp)
  repeat' (first | refine w_seq ?_ | refine w_reg ?_ | refine w_rf rfl (by assumption) (by rfl) (by rfl) (by rfl) ?_ | refine w_rfg rfl rfl (by assumption) (by rfl) (by rfl) (by rfl) (by rfl) ?_ | refine w_on rfl ?_ | refine w_len rfl (by assumption) ?_ | refine w_opk rfl rfl ?_ | refine w_cond_f rfl ?_ | refine w_skip ?_)
  refine w_iadrS (j := 1) rfl rfl rte (by simp) ?_
  repeat' (first | refine w_on rfl ?_)
  refine w_fadr rfl hS2 rfl fun hS21 => ?_
  repeat' (first | refine w_on rfl ?_)
  refine w_load1 (c := []) rfl hS21 rfl ?_
  repeat' (first | refine w_rfg rfl rfl (by assumption) (by rfl) (by rfl) (by rfl) (by rfl) ?_ | refine w_on rfl ?_ | refine w_len rfl (by assumption) ?_ | refine w_opk rfl rfl ?_)
  refine w_iadrS (j := 1) rfl rfl rte (by simp) ?_
  repeat' (first | refine w_on rfl ?_)
  refine w_fadr rfl hS2 rfl fun hS22 => ?_
  repeat' (first | refine w_on rfl ?_)
  refine w_load1 (c := []) rfl hS22 rfl ?_
  repeat' (first | refine w_on rfl ?_)
  refine w_iadrS (j := 0) rfl rfl rav (by simp) ?_
  repeat' (first | refine w_on rfl ?_)
  refine w_fadr rfl hS3 rfl fun hS31 => ?_
  repeat' (first | refine w_on rfl ?_)
  refine w_load1 rfl hS31 rfl ?_
  repeat' (first | refine w_on rfl ?_ | refine w_opk rfl rfl ?_)
  refine w_callA [] rfl (hO.aw.mono fun _ h6 ⟨e, hE6⟩ => ?_)
  subst e
  repeat' (first | refine w_e ?_ | refine w_opk rfl rfl ?_ | refine w_ret ?_ | refine w_rt rfl ?_)
  rfl
end AmT
