/-
  value.Put: a value's bytes, or none. Conditions: numbers are of 64 bits, tuples not too long; not too much is written.
-/
import Derived.Test.YtncbfghlokfmeaaGreatDoorVPut2
import Derived.Test.YtncbfghlokfmeaaGreatDoorVRight3
namespace AmT
open Go Am
set_option maxRecDepth 100000
set_option maxHeartbeats 8000000
set_option linter.unusedSimpArgs false
set_option linter.unusedVariables false
variable {O : CallF}

theorem vPut_ok (hR : OffVR O) (hO : OffVP O) (hP : ∀ a h, O 54 a h = none) {Z : Nat → Prop} {h0 : Heap} {a : Val} {c : List V} {out : V} {w : List Nat} (hv : VaR Z h0 a c) (hZ : ∀ i, Z i → i < h0.n ∧ i ∉ slIds out) (ht : RngV a) (ho : Ow h0 1 out (w.map byteC)) (hr : w.length + (encV a).length ≤ 3999999000) :
    WPc tab.get O 54 [out, .agg c] h0 (fun v h' => ∃ bv e, v = .tuple [bv, .int .i64 e] ∧ (cVal.ok a → e = 0 ∧ Ow h' 1 bv ((w ++ encV a).map byteC) ∧ Fr h0 out h' bv) ∧ (¬ cVal.ok a → e ≠ 0 ∧ Ext h0 h')) := by
  refine w_fn' (hP _ _) rfl rfl (by simp only [c54, initV, nth] <;> rfl) ?_
  have hs := hv.shape
  refine w_seq (w_reg (w_box rfl hs.1 hs.2 fun i5 h1 hB hiB hE1 => ?_))
  replace hB : Own h1 i5 c := hB
  have m1 := hE1.1
  repeat' (first | refine w_seq ?_ | refine w_reg ?_ | refine w_e ?_ | refine w_opk rfl rfl ?_)
  refine w_loadA rfl (hB.at hs.1) (by rw [hs.1]; rfl) ?_
  rw [show List.take 4 c = c from List.take_of_length_le (by omega)]
  refine w_call rfl ((vright_ok hR (hv.ext0 hE1) (fun i z => by have := (hZ i z).1; omega) ht).mono fun _ h2 ⟨⟨b, e, hb⟩, hE2⟩ => ?_)
  subst e
  have m2 := hE2.1
  replace hB := hB.ext0 hE2
  have E2 := hE1.trans hE2
  cases b with
  | false =>
    repeat' (first | refine w_seq ?_ | refine w_reg ?_ | refine w_e ?_ | refine w_opk rfl rfl ?_ | refine w_cond_t rfl ?_ | refine w_ret ?_ | refine w_rt rfl ?_)
    exact ⟨_, _, rfl, fun hk => absurd (hb.2 hk) (by decide), fun _ => ⟨by decide, E2⟩⟩
  | true =>
    have hk := hb.1 rfl
    repeat' (first | refine w_seq ?_ | refine w_reg ?_ | refine w_e ?_ | refine w_opk rfl rfl ?_ | refine w_cond_f rfl ?_ | refine w_skip ?_)
    refine w_loadA rfl (hB.at hs.1) (by rw [hs.1]; rfl) ?_
    rw [show List.take 4 c = c from List.take_of_length_le (by omega)]
    refine w_call rfl ((vput_ok hO (sizeOf a + 1) a (by omega) (hv.ext0 E2) (fun i z => ⟨by have := (hZ i z).1; omega, (hZ i z).2⟩) hk.1 hk.2 (ho.ext0 E2) hr).mono fun bv h3 ⟨t1, t2⟩ => ?_)
    repeat' (first | refine w_e ?_ | refine w_opk rfl rfl ?_ | refine w_ret ?_ | refine w_rt rfl ?_)
    exact ⟨bv, 0, rfl, fun _ => ⟨rfl, t1, (Fr.of_ext out E2).trans t2⟩, fun hn => absurd hk hn⟩
end AmT
