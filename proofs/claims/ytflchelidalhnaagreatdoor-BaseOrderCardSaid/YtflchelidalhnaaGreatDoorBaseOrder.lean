/-
  BaseOrder returns true at every input. Conditions: the package-level variables that the row lists hold what the row says, as the card ties them to the program's text.
-/
import Derived.Test.YtflchelidalhnaaGreatDoorBaseOrderEnd
import Derived.Test.YtflchelidalhnaaGreatDoorWit
import Derived.Test.YtflchelidalhnaaGreatDoorBaseOrderFe
import Derived.Test.YtflchelidalhnaaGreatDoorBaseOrderFb
import Derived.Test.YtflchelidalhnaaGreatDoorBaseOrderFd
namespace Go.Proofs.YtflchelidalhnaaGreatDoor.baseOrder
open Go.ChangeShapes Go.WideShapes Go.ChangeAt Go.RowKit

theorem zsIs : AmT.asciiV = .agg (wit.zs.map fun z => .int .u8 z) := by kernel_rfl

theorem globs {W : World} {t : Nat → Option Am.V} {tk : Nat → Option Value} (hL : laidMetH Tryz.prog wit.theList W) (ht : ∀ i v, t i = some v → ∃ x, tk i = some x ∧ x.oneCell' = true ∧ Am.VR (Am.E0 W tk) v x) :
    ∀ g v, (AmT.CC t).glob g = some v → Am.GlR (Am.E0 W tk) g v := by
  intro g v h
  have h1 : AmT.glob t g = some v := h
  clear h
  unfold AmT.glob at h1
  unfold Am.GlR
  split at h1
  · rename_i hb
    rw [if_pos (Am.nblt.1 hb)]
    split at h1
    · rename_i e
      subst e
      simp only [Option.some.injEq] at h1
      subst h1
      rw [zsIs]
      exact Am.glob_tab wit.gTab (wit.table hL)
    · cases h1
  · rename_i hb
    rw [if_neg (fun e => by rw [Am.nblt.2 e] at hb; cases hb)]
    exact ht _ _ h1

theorem walk (a0 : Int) (a1 : Int) (w0 : (Lit.int .u8 a0).wf = true) (w1 : (Lit.int .u64 a1).wf = true) (W : World) (hL : laidMetH Tryz.prog wit.theList W) :
    Calls Tryz.prog 6 #[.int .u8 a0, .int .u64 a1] W fun e w' => e = .returned (.bool true) ∧ Am.Still W w' := by
  obtain ⟨H', hr⟩ := AmT.orderW AmT.noT_flat a0 a1 w0 w1
  refine Am.law_calls (t := fun _ => none) hr (globs hL (fun i v h => by cases h)) rfl ?_
  intro i x v hx hv
  match i, hx, hv with
  | 0, hx, hv => simp at hx hv; subst hx; subst hv; exact .int .u8 a0
  | 1, hx, hv => simp at hx hv; subst hx; subst hv; exact .int .u64 a1
  | _ + 2, hx, _ => simp at hx

set_option maxRecDepth 100000 in
theorem contract (H : Type) (enc : TypeId × Value → H) (W : World) (base : Nat) (args : Array Value) (ds gs : List (DataW H)) (before : List MemPlace)
    (hval : ∀ (j : Nat) t v, Tryz.f6.params[j]? = some t → args[j]? = some v → Value.okWide Tryz.prog W .any base t v)
    (hW : DataW.Whole enc Tryz.prog Tryz.f6.params.toList Rows.baseOrderSpec.vars false W args.toList ds gs before) (hL : laidMetH Tryz.prog wit.theList W) :
    Calls Tryz.prog 6 args W fun e W' => ∃ v, e = .returned v ∧ Rows.baseOrderSpec.post enc Tryz.prog Tryz.f6 false true false false W args v W' := by
  have hW' := hW
  obtain ⟨p, q, hA0, hV, rfl, hfz, hnd⟩ := hW
  have hA : DataW.TrodAll enc Tryz.prog W 0 (fun _ => true) true Tryz.f6.params.toList args.toList ds p := hA0
  rw [Tryz.params6] at hA hval
  obtain ⟨v0, vs0, d0, ds0, p0, q0, hargs, rfl, rfl, h0, r0⟩ := trodAll_cons hA
  obtain ⟨v1, vs1, d1, ds1, p1, q1, rfl, rfl, rfl, h1, r1⟩ := trodAll_cons r0
  obtain ⟨rfl, rfl, rfl⟩ := trodAll_nil r1
  obtain rfl : args = #[v0, v1] := by cases args; simp_all
  obtain ⟨rfl, rfl⟩ := trodVars_none hV
  obtain ⟨a0, rfl, rfl, rfl, w0⟩ := open_int Tryz.underlying5 (hval 0 5 v0 rfl rfl) h0
  obtain ⟨a1, rfl, rfl, rfl, w1⟩ := open_int Tryz.underlying54 (hval 1 54 v1 rfl rfl) h1
  clear hA0
  simp only [List.append_nil] at hW'
  refine (walk a0 a1 w0 w1 W hL).mono fun e W' ⟨he, hst⟩ => ?_
  subst he
  exact ⟨_, rfl, Am.post_of_still (pa := []) (pv := []) hW' (fun _ _ _ => (trodAll_cons_mk (shut_bool Tryz.underlying4 _) trodAll_mk0)) (fun sp _ => (trodAll_cons_mk (shut_int Tryz.underlying5 w0) (trodAll_cons_mk (shut_int Tryz.underlying54 w1) trodAll_mk0))) (fun _ _ => rfl) rfl
    hst (ok_one (by kernel_rfl) rfl (okWide_bool_mk Tryz.underlying4 _))⟩

theorem reads (os : Os) {H : Type} (enc : TypeId × Value → H) : ∃ places, DataW.whole enc Tryz.prog ((wit.laidWorld os).forCall (fun _ _ => 0) ⟨#[], #[Value.int .u8 0, Value.int .u64 0], []⟩).memory Tryz.f6.params.toList Rows.baseOrderSpec.vars false #[Value.int .u8 0, Value.int .u64 0].toList 8 = some ([.lit (.int .u8 0), .lit (.int .u64 0)], [], places) :=
  ⟨[], by kernel_rfl⟩

set_option maxRecDepth 100000 in
theorem lifted (os : Os) (started : os.Started) (H : Type) (enc : TypeId × Value → H) (F : Stop.Interp) :
    ReturnsInHanded {} Tryz.checked os 6 .any ((OpenSpec.ofChange Rows.baseOrderSpec).preRow enc Tryz.prog Tryz.f6 Rows.baseOrderRow.domain false Rows.baseOrderRow.laid) (((OpenSpec.ofChange Rows.baseOrderSpec).at F).post enc Tryz.prog Tryz.f6 false true false false) := by
  obtain ⟨places, hx⟩ := reads os enc
  refine returnsInHanded_of_row (C := Tryz.checked) (s := OpenSpec.ofChange Rows.baseOrderSpec) wit.own started (by kernel_rfl) Tryz.func6
    (witness_row_atRef (enc := enc) (C := Tryz.checked) false (wit.laidWorld os) #[Value.int .u8 0, Value.int .u64 0] rfl (by kernel_rfl) (by kernel_rfl) (by kernel_rfl)
      (OpenSpec.preRow_of_cond 8 hx (by kernel_rfl) (fun k hk => by cases hk) (by kernel_rfl) (wit.laid_met os _))) ?_
  intro W base args ds gs before hval hW _ _ _ hL _ _
  exact contract H enc W base args ds gs before hval hW hL

theorem said : Rows.BaseOrderSaid :=
  OpenClaim.holds_of_cond 6 Tryz.f6 rfl rfl rfl rfl rfl rfl rfl ⟨rfl, rfl, rfl, rfl, rfl⟩ rfl rfl rfl rfl rfl named Tryz.func6 closed
    (of_decide_eq_true (by kernel_rfl)) (by unfold Func.isWrapper; first | (rw [if_pos (by decide +kernel)]; kernel_rfl) | (rw [if_neg (by decide +kernel)]; exact ⟨rfl, rfl⟩))
    (fun os started H enc _ F => by rw [OpenClaim.pre_eq_preRow]; exact lifted os started H enc F)

/-- No parameter wants a stand-in; the program's own looks are off. -/
theorem plain (f : FuncId) (fn : Func) (hf : Tryz.pinned.checked.prog.funcNamed "drover/droverlaw12.BaseOrder" = some f) (hfn : Tryz.pinned.checked.prog.funcs[f]? = some fn) :
    true = Tryz.pinned.checked.prog.looks [] ∧ ∀ (j : Nat) t, fn.params[j]? = some t → Tryz.pinned.checked.prog.wantsStandIn t = false := by
  obtain rfl : f = 6 := Option.some.inj (named.symm.trans hf) |>.symm
  obtain rfl : fn = Tryz.f6 := (Option.some.inj (Tryz.func6.symm.trans hfn)).symm
  refine ⟨looks, fun j t ht => ?_⟩
  rw [Tryz.params6] at ht
  have s0 : Tryz.prog.wantsStandIn 54 = false := by kernel_rfl
  have s1 : Tryz.prog.wantsStandIn 5 = false := by kernel_rfl
  by_cases e0 : t = 54
  · subst e0; exact s0
  by_cases e1 : t = 5
  · subst e1; exact s1
  exact absurd (Array.mem_of_getElem? ht) (by simp [e0, e1])

/-- ████ THE CARD ████ -/
theorem card : Rows.BaseOrderCardSaid :=
  Claim7.holds_tied_plain_at .later [] _ _ _ _ said (fun _ h => by cases h) byText (fun _ h => by cases h) baseOrder_row_tie rfl ⟨rfl, rfl⟩ mainIs rfl plain goesBy
end Go.Proofs.YtflchelidalhnaaGreatDoor.baseOrder
