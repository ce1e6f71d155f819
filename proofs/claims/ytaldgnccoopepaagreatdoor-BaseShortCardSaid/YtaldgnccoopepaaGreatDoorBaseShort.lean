/-
  BaseShort holds of every two truths: of an and, and of an or, the second one is not begun where the first one says it all. Conditions: the package-level variables that the row lists hold what the row says, as the card ties them to the program's text.
-/
import Derived.Test.YtaldgnccoopepaaGreatDoorBaseShortRun
import Derived.Test.YtaldgnccoopepaaGreatDoorWit
import Derived.Test.YtaldgnccoopepaaGreatDoorFactsE
import Derived.Test.YtaldgnccoopepaaGreatDoorFactsB
namespace Go.Proofs.YtaldgnccoopepaaGreatDoor.baseShort
open Go.ChangeShapes Go.WideShapes Go.ChangeAt Go.RowKit

theorem zsIs : AmT.asciiV = .agg (wit.zs.map fun z => .int .u8 z) := by kernel_rfl

theorem globs {W : World} (hL : laidMetH Tryz.prog wit.theList W) : ∀ g v, AmT.CC.glob g = some v → Am.VR (Am.E0 W) (.vptr v 0) (.pointer (some ⟨g, 0, none⟩)) := by
  intro g v h
  have h1 : (if g = 1 then some AmT.asciiV else none) = some v := h
  clear h
  split at h1
  · rename_i e
    subst e
    simp only [Option.some.injEq] at h1
    subst h1
    rw [zsIs]
    exact Am.glob_tab wit.gTab (wit.table hL)
  · cases h1

theorem walk (a b : Bool) (W : World) (hL : laidMetH Tryz.prog wit.theList W) :
    Calls Tryz.prog 3 #[.bool a, .bool b] W fun e w' => e = .returned (.bool true) ∧ Am.Still W w' := by
  refine Am.law_calls (AmT.short a b Am.Heap.empty) (globs hL) rfl ?_
  intro i x v hx hv
  match i, hx, hv with
  | 0, hx, hv => simp at hx hv; subst hx; subst hv; exact .bool a
  | 1, hx, hv => simp at hx hv; subst hx; subst hv; exact .bool b
  | _ + 2, hx, _ => simp at hx

set_option maxRecDepth 100000 in
theorem contract (H : Type) (enc : TypeId × Value → H) (W : World) (base : Nat) (args : Array Value) (ds gs : List (DataW H)) (before : List MemPlace)
    (hval : ∀ (j : Nat) t v, Tryz.f3.params[j]? = some t → args[j]? = some v → Value.okWide Tryz.prog W .any base t v)
    (hW : DataW.Whole enc Tryz.prog Tryz.f3.params.toList Rows.baseShortSpec.vars false W args.toList ds gs before) (hL : laidMetH Tryz.prog wit.theList W) :
    Calls Tryz.prog 3 args W fun e W' => ∃ v, e = .returned v ∧ Rows.baseShortSpec.post enc Tryz.prog Tryz.f3 false true false false W args v W' := by
  have hW' := hW
  obtain ⟨p, q, hA0, hV, rfl, hfz, hnd⟩ := hW
  have hA : DataW.TrodAll enc Tryz.prog W 0 (fun _ => true) true Tryz.f3.params.toList args.toList ds p := hA0
  rw [Tryz.params3] at hA hval
  obtain ⟨v0, vs0, d0, ds0, p0, q0, hargs, rfl, rfl, h0, r0⟩ := trodAll_cons hA
  obtain ⟨v1, vs1, d1, ds1, p1, q1, rfl, rfl, rfl, h1, r1⟩ := trodAll_cons r0
  obtain ⟨rfl, rfl, rfl⟩ := trodAll_nil r1
  obtain rfl : args = #[v0, v1] := by cases args; simp_all
  obtain ⟨rfl, rfl⟩ := trodVars_none hV
  obtain ⟨a0, rfl, rfl, rfl⟩ := open_bool Tryz.underlying4 (hval 0 4 v0 rfl rfl) h0
  obtain ⟨a1, rfl, rfl, rfl⟩ := open_bool Tryz.underlying4 (hval 1 4 v1 rfl rfl) h1
  clear hA0
  simp only [List.append_nil] at hW'
  refine (walk a0 a1 W hL).mono fun e W' ⟨he, hst⟩ => ?_
  subst he
  exact ⟨_, rfl, Am.post_of_still (pa := []) (pv := []) hW' (fun _ _ _ => (trodAll_cons_mk (shut_bool Tryz.underlying4 _) trodAll_mk0)) (fun sp _ => (trodAll_cons_mk (shut_bool Tryz.underlying4 _) (trodAll_cons_mk (shut_bool Tryz.underlying4 _) trodAll_mk0))) (fun _ _ => rfl) rfl
    hst (ok_one (by kernel_rfl) rfl (okWide_bool_mk Tryz.underlying4 _))⟩

theorem reads (os : Os) {H : Type} (enc : TypeId × Value → H) : ∃ places, DataW.whole enc Tryz.prog ((wit.laidWorld os).forCall (fun _ _ => 0) ⟨#[], #[.bool false, .bool false], []⟩).memory Tryz.f3.params.toList Rows.baseShortSpec.vars false #[Value.bool false, Value.bool false].toList 8 = some ([.lit (.bool false), .lit (.bool false)], [], places) :=
  ⟨[], by kernel_rfl⟩

set_option maxRecDepth 100000 in
theorem lifted (os : Os) (started : os.Started) (H : Type) (enc : TypeId × Value → H) (F : Stop.Interp) :
    ReturnsInHanded {} Tryz.checked os 3 .any ((OpenSpec.ofChange Rows.baseShortSpec).preRow enc Tryz.prog Tryz.f3 Rows.baseShortRow.domain false Rows.baseShortRow.laid) (((OpenSpec.ofChange Rows.baseShortSpec).at F).post enc Tryz.prog Tryz.f3 false true false false) := by
  obtain ⟨places, hx⟩ := reads os enc
  refine returnsInHanded_of_row (C := Tryz.checked) (s := OpenSpec.ofChange Rows.baseShortSpec) wit.own started (by kernel_rfl) Tryz.func3
    (witness_row_atRef (enc := enc) (C := Tryz.checked) false (wit.laidWorld os) #[.bool false, .bool false] rfl (by kernel_rfl) (by kernel_rfl) (by kernel_rfl)
      (OpenSpec.preRow_of_cond 8 hx (by kernel_rfl) (fun k hk => by cases hk) (by kernel_rfl) (wit.laid_met os _))) ?_
  intro W base args ds gs before hval hW _ _ _ hL _ _
  exact contract H enc W base args ds gs before hval hW hL

theorem said : Rows.BaseShortSaid :=
  OpenClaim.holds_of_cond 3 Tryz.f3 rfl rfl rfl rfl rfl rfl rfl ⟨rfl, rfl, rfl, rfl, rfl⟩ rfl rfl rfl rfl rfl named Tryz.func3 closed
    (of_decide_eq_true (by kernel_rfl)) (by unfold Func.isWrapper; first | (rw [if_pos (by decide +kernel)]; kernel_rfl) | (rw [if_neg (by decide +kernel)]; exact ⟨rfl, rfl⟩))
    (fun os started H enc _ F => by rw [OpenClaim.pre_eq_preRow]; exact lifted os started H enc F)

/-- No parameter wants a stand-in; the program's own looks are off. -/
theorem plain (f : FuncId) (fn : Func) (hf : Tryz.pinned.checked.prog.funcNamed "drover/droverlaw12.BaseShort" = some f) (hfn : Tryz.pinned.checked.prog.funcs[f]? = some fn) :
    true = Tryz.pinned.checked.prog.looks [] ∧ ∀ (j : Nat) t, fn.params[j]? = some t → Tryz.pinned.checked.prog.wantsStandIn t = false := by
  obtain rfl : f = 3 := Option.some.inj (named.symm.trans hf) |>.symm
  obtain rfl : fn = Tryz.f3 := (Option.some.inj (Tryz.func3.symm.trans hfn)).symm
  refine ⟨looks, fun j t ht => ?_⟩
  rw [Tryz.params3] at ht
  have h1 : Tryz.prog.wantsStandIn 4 = false := by kernel_rfl
  have : t = 4 := by
    have := Array.mem_of_getElem? ht
    simpa using this
  subst this
  exact h1

/-- ████ THE CARD ████ -/
theorem card : Rows.BaseShortCardSaid :=
  Claim7.holds_tied_plain_at .later [] _ _ _ _ said (fun _ h => by cases h) byText (fun _ h => by cases h) baseShort_row_tie rfl ⟨rfl, rfl⟩ mainIs rfl plain goesBy
end Go.Proofs.YtaldgnccoopepaaGreatDoor.baseShort
