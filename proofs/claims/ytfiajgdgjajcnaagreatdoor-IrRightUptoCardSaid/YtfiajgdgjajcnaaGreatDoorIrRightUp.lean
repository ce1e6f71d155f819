/-
  IrRight returns true at every input of bulk at most 1048576. Conditions: the package-level variables that the row lists hold what the row says, as the card ties them to the program's text.
-/
import Derived.Test.YtfiajgdgjajcnaaGreatDoorIrRightEnd
import Derived.Test.YtfiajgdgjajcnaaGreatDoorWit
import Derived.Test.YtfiajgdgjajcnaaGreatDoorTy
import Derived.Test.YtfiajgdgjajcnaaGreatDoorBulk
import Derived.Test.YtfiajgdgjajcnaaGreatDoorIrRightUpFe
import Derived.Test.YtfiajgdgjajcnaaGreatDoorIrRightUpFb
import Derived.Test.YtfiajgdgjajcnaaGreatDoorIrRightUpFd
namespace Go.Proofs.YtfiajgdgjajcnaaGreatDoor.irRightUp
open Go.ChangeShapes Go.WideShapes Go.ChangeAt Go.RowKit
set_option linter.unusedSimpArgs false
set_option linter.unusedVariables false

theorem zsIs : AmT.asciiV = .agg (wit.zs.map fun z => .int .u8 z) := by kernel_rfl

theorem globs {W : World} {t : Nat → Option Am.V} {tk : Nat → Option Value} (hL : laidMetH Tryz.prog wit.theList W) (ht : ∀ i v, t i = some v → ∃ x, tk i = some x ∧ x.oneCell' = true ∧ Am.VR (Am.E0 W tk) v x) :
    ∀ g v, (AmT.CC t).glob g = some v → Am.GlR (Am.E0 W tk) g v := by
  intro g v h
  have h1 : AmT.glob t g = some v := h
  clear h
  unfold AmT.glob at h1
  unfold Am.GlR
  split at h1
  · rename_i hb
    rw [if_pos (Am.nblt.1 hb)]
    split at h1
    · rename_i e
      subst e
      simp only [Option.some.injEq] at h1
      subst h1
      rw [zsIs]
      exact Am.glob_tab wit.gTab (wit.table hL)
    · cases h1
  · rename_i hb
    rw [if_neg (fun e => by rw [Am.nblt.2 e] at hb; cases hb)]
    exact ht _ _ h1

/-- The types among which the arguments lie. -/
noncomputable def reachT : Nat → List TypeId → List TypeId
  | 0, l => l
  | n + 1, l => reachT n (l.foldl (fun acc t => match Tryz.prog.underlying t with
    | some (.slice e) => if acc.contains e then acc else acc ++ [e]
    | some (.array _ e) => if acc.contains e then acc else acc ++ [e]
    | some (.struct fs) => fs.toList.foldl (fun acc f => if acc.contains f.type then acc else acc ++ [f.type]) acc
    | _ => acc) l)
noncomputable def tys : List TypeId := reachT 12 [28, 75, 76]
theorem plainTys : Am.plainB Tryz.prog tys = true := by kernel_rfl
theorem laidOut : laidOutB Tryz.prog = true := by kernel_rfl
theorem mapsR : mapsRowed Tryz.prog = true := by kernel_rfl
theorem slicesFull : ((List.range Tryz.prog.types.size).all fun t => match Tryz.prog.underlying t with | some (.slice e) => decide (0 < Tryz.prog.cellsOf e) | _ => true) = true := by kernel_rfl
theorem paramsIn : (Tryz.f8.params.toList.all fun t => decide (t < Tryz.prog.types.size)) = true := by kernel_rfl

theorem in0 : 28 ∈ tys := by
  have : tys.contains 28 = true := by kernel_rfl
  simpa using this
theorem in1 : 75 ∈ tys := by
  have : tys.contains 75 = true := by kernel_rfl
  simpa using this
theorem in2 : 76 ∈ tys := by
  have : tys.contains 76 = true := by kernel_rfl
  simpa using this
noncomputable def zeroC : Nat → TypeId → List Value
  | 0, _ => []
  | n + 1, t => match Tryz.prog.underlying t with
    | some .bool => [.bool false]
    | some (.int k) => [.int k 0]
    | some .string => [.string ⟨#[]⟩]
    | some (.slice _) => [.slice none 0 0]
    | some (.struct fs) => fs.toList.flatMap fun f => zeroC n f.type
    | some (.array m e) => (List.replicate m e).flatMap fun e => zeroC n e
    | _ => []
noncomputable def zeroD {H : Type} : Nat → TypeId → DataW H
  | 0, _ => .nil
  | n + 1, t => match Tryz.prog.underlying t with
    | some .bool => .lit (.bool false)
    | some (.int k) => .lit (.int k 0)
    | some .string => .lit (.string [])
    | some (.slice _) => .nil
    | some (.struct fs) => .agg (fs.toList.map fun f => zeroD n f.type)
    | some (.array m e) => .agg ((List.replicate m e).map fun e => zeroD n e)
    | _ => .nil
noncomputable def zero0 : Value := .agg (zeroC 8 28).toArray
noncomputable def zero1 : Value := .agg (zeroC 8 75).toArray
noncomputable def zero2 : Value := .agg (zeroC 8 76).toArray

set_option maxRecDepth 100000 in
theorem contract (H : Type) (enc : TypeId × Value → H) (W : World) (base : Nat) (args : Array Value) (ds gs : List (DataW H)) (before : List MemPlace)
    (hval : ∀ (j : Nat) t v, Tryz.f8.params[j]? = some t → args[j]? = some v → Value.okWide Tryz.prog W .any base t v)
    (hW : DataW.Whole enc Tryz.prog Tryz.f8.params.toList Rows.irRightSpec.vars false W args.toList ds gs before) (hk : Rows.uptoBulkAll (ds ++ gs) ≤ 1048576) (hL : laidMetH Tryz.prog wit.theList W) :
    Calls Tryz.prog 8 args W fun e W' => ∃ v, e = .returned v ∧ Rows.irRightSpec.post enc Tryz.prog Tryz.f8 false true false false W args v W' := by
  have hW' := hW
  obtain ⟨p, q, hA0, hV, rfl, hfz, hnd⟩ := hW
  have hA : DataW.TrodAll enc Tryz.prog W 0 (fun _ => true) true Tryz.f8.params.toList args.toList ds p := hA0
  have hAll := hA
  obtain ⟨rfl, rfl⟩ := trodVars_none hV
  rw [Tryz.params8] at hA hval
  obtain ⟨v0, vs0, d0, ds0, p0, q0, hargs, rfl, rfl, h0, r0⟩ := trodAll_cons hA
  obtain ⟨v1, vs1, d1, ds1, p1, q1, rfl, rfl, rfl, h1, r1⟩ := trodAll_cons r0
  obtain ⟨v2, vs2, d2, ds2, p2, q2, rfl, rfl, rfl, h2, r2⟩ := trodAll_cons r1
  obtain ⟨rfl, rfl, rfl⟩ := trodAll_nil r2
  obtain rfl : args = #[v0, v1, v2] := by cases args; simp_all
  simp only [List.append_nil, List.cons_append, List.nil_append, Rows.uptoBulkAll] at hk
  obtain ⟨arr0, rfl, _⟩ := okWide_struct Tryz.underlying28 (hval 0 28 v0 rfl rfl)
  obtain ⟨arr1, rfl, _⟩ := okWide_struct Tryz.underlying75 (hval 1 75 v1 rfl rfl)
  have hv2 := hval 2 76 v2 rfl rfl
  simp only [Value.okWide, Tryz.underlying76] at hv2
  obtain ⟨arr2, rfl, _⟩ := hv2
  obtain ⟨w0, x0⟩ := Am.arg_agg (tk := fun _ => none) plainTys in0 h0
  have b0 := AmT.bulk_le d0
  generalize Am.cellsD d0 = a0 at w0 x0 b0
  obtain ⟨w1, x1⟩ := Am.arg_agg (tk := fun _ => none) plainTys in1 h1
  have b1 := AmT.bulk_le d1
  generalize Am.cellsD d1 = a1 at w1 x1 b1
  obtain ⟨w2, x2⟩ := Am.arg_agg (tk := fun _ => none) plainTys in2 h2
  have b2 := AmT.bulk_le d2
  generalize Am.cellsD d2 = a2 at w2 x2 b2
  obtain ⟨H', hc⟩ := AmT.irRight_run (t := AmT.noT) AmT.noT_flat a0 a1 a2 w0 w1 w2 (by have hk := hk; omega)
  refine (Am.law_calls (t := fun _ => none) hc (globs hL (fun i v h => by cases h)) rfl ?_).mono fun e W' ⟨he, hst⟩ => ?_
  · intro i x v hx hv
    match i, hx, hv with
    | 0, hx, hv => simp at hx hv; subst hx; subst hv; exact x0
    | 1, hx, hv => simp at hx hv; subst hx; subst hv; exact x1
    | 2, hx, hv => simp at hx hv; subst hx; subst hv; exact x2
    | _ + 3, hx, _ => simp at hx
  subst he
  exact ⟨_, rfl, Am.post_of_still (pv := []) hW' (fun _ _ _ => (trodAll_cons_mk (shut_bool Tryz.underlying4 _) trodAll_mk0))
    (fun sp hs => Am.again laidOut mapsR slicesFull (fun t ht => of_decide_eq_true (List.all_eq_true.1 paramsIn t ht)) hAll hst (fun p hp => hs p (by simpa using hp))) (fun _ _ => rfl) rfl
    hst (ok_one (by kernel_rfl) rfl (okWide_bool_mk Tryz.underlying4 _))⟩

theorem reads (os : Os) {H : Type} (enc : TypeId × Value → H) : ∃ x places, DataW.whole enc Tryz.prog ((wit.laidWorld os).forCall (fun _ _ => 0) ⟨#[], #[(zero0), (zero1), (zero2)], []⟩).memory Tryz.f8.params.toList Rows.irRightSpec.vars false #[(zero0), (zero1), (zero2)].toList 8 = some (x, [], places) ∧ Rows.uptoSmall H (x ++ []) = true :=
  ⟨[zeroD 8 28, zeroD 8 75, zeroD 8 76], [], by kernel_rfl, by kernel_rfl⟩

set_option maxRecDepth 100000 in
theorem lifted (os : Os) (started : os.Started) (H : Type) (enc : TypeId × Value → H) (F : Stop.Interp) :
    ReturnsInHanded {} Tryz.checked os 8 .any ((Rows.OpenSpec.upto Rows.irRightSpec).preRow enc Tryz.prog Tryz.f8 Rows.irRightUptoRow.domain false Rows.irRightUptoRow.laid) (((Rows.OpenSpec.upto Rows.irRightSpec).at F).post enc Tryz.prog Tryz.f8 false true false false) := by
  obtain ⟨x, places, hx, hu⟩ := reads os enc
  refine returnsInHanded_of_row (C := Tryz.checked) (s := (Rows.OpenSpec.upto Rows.irRightSpec)) wit.own started (by kernel_rfl) Tryz.func8
    (witness_row_atRef (enc := enc) (C := Tryz.checked) false (wit.laidWorld os) #[(zero0), (zero1), (zero2)] rfl (by kernel_rfl) (by kernel_rfl) (by kernel_rfl)
      (OpenSpec.preRow_of_cond 8 hx (by rfl) (fun k hk => by cases hk; exact hu) (by rfl) (wit.laid_met os _))) ?_
  intro W base args ds gs before hval hW _ hcond _ hL _ _
  exact contract H enc W base args ds gs before hval hW (of_decide_eq_true (hcond _ rfl)) hL

theorem said : Rows.IrRightUptoSaid :=
  OpenClaim.holds_of_cond 8 Tryz.f8 rfl rfl rfl rfl rfl rfl rfl ⟨rfl, rfl, rfl, rfl, rfl⟩ rfl rfl rfl rfl rfl named Tryz.func8 closed
    (of_decide_eq_true (by kernel_rfl)) (by unfold Func.isWrapper; first | (rw [if_pos (by decide +kernel)]; kernel_rfl) | (rw [if_neg (by decide +kernel)]; exact ⟨rfl, rfl⟩))
    (fun os started H enc _ F => by rw [OpenClaim.pre_eq_preRow]; exact lifted os started H enc F)

/-- No parameter wants a stand-in; the program's own looks are off. -/
theorem plain (f : FuncId) (fn : Func) (hf : Tryz.pinned.checked.prog.funcNamed "drover/droverlaw14.IrRight" = some f) (hfn : Tryz.pinned.checked.prog.funcs[f]? = some fn) :
    true = Tryz.pinned.checked.prog.looks [] ∧ ∀ (j : Nat) t, fn.params[j]? = some t → Tryz.pinned.checked.prog.wantsStandIn t = false := by
  obtain rfl : f = 8 := Option.some.inj (named.symm.trans hf) |>.symm
  obtain rfl : fn = Tryz.f8 := (Option.some.inj (Tryz.func8.symm.trans hfn)).symm
  refine ⟨looks, fun j t ht => ?_⟩
  rw [Tryz.params8] at ht
  have s0 : Tryz.prog.wantsStandIn 76 = false := by kernel_rfl
  have s1 : Tryz.prog.wantsStandIn 75 = false := by kernel_rfl
  have s2 : Tryz.prog.wantsStandIn 28 = false := by kernel_rfl
  by_cases e0 : t = 76
  · subst e0; exact s0
  by_cases e1 : t = 75
  · subst e1; exact s1
  by_cases e2 : t = 28
  · subst e2; exact s2
  exact absurd (Array.mem_of_getElem? ht) (by simp [e0, e1, e2])

/-- ████ THE CARD ████ -/
theorem card : Rows.IrRightUptoCardSaid :=
  Claim7.holds_tied_plain_at .later [] _ _ _ _ said (fun _ h => by cases h) byText (fun _ h => by cases h) irRightUpto_row_tie rfl ⟨rfl, rfl⟩ mainIs rfl plain goesBy
end Go.Proofs.YtfiajgdgjajcnaaGreatDoor.irRightUp
