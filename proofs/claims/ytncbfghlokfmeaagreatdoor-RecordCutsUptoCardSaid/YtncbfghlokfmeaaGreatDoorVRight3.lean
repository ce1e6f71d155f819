/-
  value.Right: which values may be. Conditions: numbers are of 64 bits; tuples are not too long.
-/
import Derived.Test.YtncbfghlokfmeaaGreatDoorVRight2
namespace AmT
open Go Am
set_option maxRecDepth 100000
set_option maxHeartbeats 8000000
set_option linter.unusedSimpArgs false
set_option linter.unusedVariables false
variable {O : CallF}

theorem vright_ok (hO : OffVR O) {Z : Nat → Prop} {h0 : Heap} {a : Val} {c : List V} (hv : VaR Z h0 a c) (hz : ∀ i, Z i → i < h0.n) (ht : RngV a) :
    WPc tab.get O 77 [.agg c] h0 (fun v h' => (∃ b, v = .bool b ∧ (b = true ↔ cVal.ok a)) ∧ Ext h0 h') := by
  refine w_fn' (hO.ri _ _) rfl rfl (by simp only [c77, initV, nth] <;> rfl) ?_
  have hs := hv.shape
  refine w_seq (w_reg (w_box rfl hs.1 hs.2 fun i5 h1 hB hiB hE1 => ?_))
  replace hB : Own h1 i5 c := hB
  have m1 := hE1.1
  have hBl := hB.1
  repeat' (first | refine w_seq ?_ | refine w_reg ?_ | refine w_e ?_ | refine w_opk rfl rfl ?_)
  refine w_alloc fun i2 h2 hL hiL hE2 => ?_
  refine w_store rfl rfl hL rfl rfl (by decide) (by simp) fun h3 hL2 y3 z3 => ?_
  replace hL2 : Own h3 i2 [.int .i64 (.ofNat 256)] := hL2
  have m2 := hE2.1
  have hLl := hL2.1
  have e3 : Ext h1 h3 := hE2.step y3 fun j hj => by simp at hj; exact .inr (by omega)
  repeat' (first | refine w_seq ?_ | refine w_reg ?_ | refine w_e ?_)
  refine w_alloc fun i3 h4 hF hiF hE4 => ?_
  have m4 := hE4.1
  repeat' (first | refine w_seq ?_ | refine w_reg ?_ | refine w_e ?_ | refine w_opk rfl rfl ?_)
  refine w_store rfl rfl hF rfl rfl (by decide) (by simp) fun h5 hF2 y5 z5 => ?_
  replace hF2 : Own h5 i3 [.fn 115 [] [.ptr i2 0 0 1, .ptr i3 0 0 1]] := hF2
  have e5 : Ext h3 h5 := hE4.step y5 fun j hj => by simp at hj; exact .inr (by omega)
  have hL5 := hL2.ext0 e5
  have hB5 := (hB.ext0 e3).ext0 e5
  have E5 := (hE1.trans e3).trans e5
  have hne : i2 ≠ i3 := by omega
  have hZ : ¬ Z i2 := fun h => by have := hz _ h; omega
  clear hF y5 y3 hL hE2 hE4
  repeat' (first | refine w_seq ?_ | refine w_reg ?_ | refine w_e ?_ | refine w_fl rfl (by assumption) (by rfl) (by rfl) (by rfl) ?_)
  refine w_loadA rfl (hB5.at hs.1) (by rw [hs.1]; rfl) ?_
  rw [show List.take 4 c = c from List.take_of_length_le (by omega)]
  refine w_callv rfl rfl ((vright1_ok (lv := 16) hO hne hZ (sizeOf a + 1) a (by omega) (hv.ext0 E5) ht hL5 hF2 (by omega) (by omega)).mono fun _ h6 ⟨b, x, e, g2, gE, g3, g4⟩ => ?_)
  subst e
  repeat' (first | refine w_e ?_ | refine w_opk rfl rfl ?_ | refine w_ret ?_ | refine w_rt rfl ?_)
  exact ⟨⟨b, rfl, fun hb => ⟨(g3 hb).1, (g3 hb).2.1⟩, fun hc => g4 hc.1 hc.2⟩, E5.step gE fun j hj => by simp at hj; exact .inr (by omega)⟩
end AmT
