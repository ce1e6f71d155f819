/-
  bytes.GetBlob: bytes at a place, or an error. Conditions: the bytes are bytes, the place is not past them.
-/
import Derived.Test.YtncbfghlokfmeaaGreatDoorGet
namespace AmT
open Go Am
set_option maxRecDepth 100000
set_option maxHeartbeats 4000000
set_option linter.unusedSimpArgs false
set_option linter.unusedVariables false
variable {O : CallF}

theorem cloneB_ok (hO : ∀ a h, O 131 a h = none) {h0 : Heap} {v : V} {l : List (List V)} (hv : RS h0 1 v l) (hl : l.length ≤ 4294967296) :
    WPc tab.get O 131 [v] h0 (fun w h' => Ow h' 1 w l ∧ Ext h0 h' ∧ ∀ j ∈ slIds w, h0.n ≤ j) := by
  refine w_fn' (hO _ _) rfl rfl (by simp only [c131, initV, nth] <;> rfl) ?_
  refine w_seq (w_reg ?_)
  repeat' (first | refine w_seq ?_ | refine w_reg ?_ | refine w_e ?_ | refine w_opk rfl rfl ?_)
  refine w_isnil rfl hv (fun e => ?_) (fun e => ?_)
  · subst e
    have hl0 : l = [] := by
      have := hv.1
      simp only [srcCells, Option.some.injEq, Prod.mk.injEq] at this
      exact List.eq_nil_of_length_eq_zero this.1.symm
    subst hl0
    repeat' (first | refine w_seq ?_ | refine w_reg ?_ | refine w_e ?_ | refine w_opk rfl rfl ?_ | refine w_cond_t rfl ?_ | refine w_ret ?_ | refine w_rt rfl ?_)
    exact ⟨Ow.nils _ _, ExtX.refl _ _, by simp [slIds, packV]⟩
  · repeat' (first | refine w_seq ?_ | refine w_reg ?_ | refine w_e ?_ | refine w_cond_f rfl ?_ | refine w_skip ?_)
    refine w_bslice [] rfl (by rfl) rfl rfl (by simp) fun e0 h1 he0 hf1 => ?_
    have he0n : ∀ j ∈ slIds e0, h0.n ≤ j := fun j hj => by
      rcases hf1.2 j hj with e | e
      · cases e
      · exact e
    repeat' (first | refine w_opk rfl rfl ?_)
    refine w_app rfl rfl he0 (hv.ext0 hf1.ext0) (by simpa using hl) fun w h2 hw hf2 => ?_
    rw [List.nil_append] at hw
    repeat' (first | refine w_e ?_ | refine w_opk rfl rfl ?_ | refine w_ret ?_ | refine w_rt rfl ?_)
    refine ⟨hw, hf1.ext0.step hf2.1 fun j hj => .inr (he0n j hj), fun j hj => ?_⟩
    rcases hf2.2 j hj with e | e
    · exact he0n j e
    · have := hf1.1.1; omega

/-- What GetBlob tells. -/
def GotB (lo : Nat) (h' : Heap) (n : Nat) (v : V) (o : Option (List UInt8 × List Nat)) : Prop :=
  match o with
  | some (s, r) => ∃ sv, v = .tuple [sv, .int .i64 (.ofNat (n - r.length)), .int .i64 0] ∧ RS h' 1 sv ((s.map UInt8.toNat).map byteC) ∧ r.length ≤ n ∧ ∀ j ∈ slIds sv, lo ≤ j
  | none => ∃ e : Int, e ≠ 0 ∧ v = .tuple [.nils, .int .i64 0, .int .i64 e]

structure OffGB (O : CallF) : Prop where
  gu : ∀ a h, O 100 a h = none
  gb : ∀ a h, O 98 a h = none
  cb : ∀ a h, O 131 a h = none

theorem getB_ok (hO : OffGB O) {h0 : Heap} {b : V} {bs : List Nat} {a most : Nat} (hm : most < 18446744073709551616) (hm2 : most < 9223372036854775808) (hb : Ow h0 1 b (bs.map byteC)) (hB : Bytes bs) (ha : a ≤ bs.length) (hl : bs.length ≤ 4294967296) :
    WPc tab.get O 98 [b, .int .i64 (.ofNat a), .int .i64 (.ofNat most)] h0 (fun v h' => GotB h0.n h' bs.length v ((cBlob most hm).dec (bs.drop a)) ∧ Ext h0 h') := by
  refine w_fn' (hO.gb _ _) rfl rfl (by simp only [c98, initV, nth] <;> rfl) ?_
  have hwm : IntKind.u64.wrap (.ofNat most) = .ofNat most := by
    rw [wrap_u64]; show ((most : Nat) : Int) % _ = ((most : Nat) : Int); omega
  have hbr := hb.rs
  have hd0 : (cBlob most hm).dec (bs.drop a) = (match dU 9 true (bs.drop a) with
    | none => none
    | some (m, r) => if m ≤ most ∧ m ≤ r.length then some ((r.take m).map UInt8.ofNat, r.drop m) else none) := rfl
  rw [hd0]
  clear hd0
  repeat' (first | refine w_seq ?_ | refine w_reg ?_ | refine w_e ?_ | refine w_opq rfl rfl ?_)
  refine w_call rfl ((getU_ok hO.gu hb.rs hB ha hl).mono fun v h1 ⟨hv, e1⟩ => ?_)
  subst e1
  cases hd : dU 9 true (bs.drop a) with
  | none =>
    rw [hd] at hv
    obtain ⟨e, he, rfl⟩ := hv
    repeat' (first | refine w_seq ?_ | refine w_e ?_ | refine w_opq rfl rfl ?_)
    refine w_block ?_
    repeat' (first | refine w_seq ?_ | refine w_reg ?_ | refine w_e ?_ | refine w_off rfl ?_ | refine w_on rfl ?_ | refine w_lssN rfl rfl (fun hc => ?_) (fun hc => ?_) | refine w_neq rfl rfl (fun hc => ?_) (fun hc => ?_) | refine w_opq rfl rfl ?_ | refine w_cond_t rfl ?_ | refine w_cond_f rfl ?_ | refine w_ret ?_ | refine w_rt rfl ?_)
    · exact ⟨⟨e, he, rfl⟩, ExtX.refl _ _⟩
    all_goals exact absurd (by assumption) he
  | some y =>
    obtain ⟨m, r⟩ := y
    rw [hd] at hv
    obtain ⟨rfl, hm64, hrl⟩ := hv
    obtain ⟨hr1, hr2⟩ := dU_drop hB ha hd
    simp only []
    repeat' (first | refine w_seq ?_ | refine w_e ?_ | refine w_opq rfl rfl ?_)
    refine w_block ?_
    repeat' (first | refine w_seq ?_ | refine w_reg ?_ | refine w_e ?_ | refine w_off rfl ?_ | refine w_on rfl ?_ | refine w_lssN rfl rfl (fun hc => ?_) (fun hc => ?_) | refine w_neqN rfl rfl (fun hc => ?_) (fun hc => ?_) | refine w_opq rfl rfl ?_ | refine w_cond_t rfl ?_ | refine w_cond_f rfl ?_ | refine w_ret ?_ | refine w_rt rfl ?_)
    · exact absurd rfl (by assumption)
    · exact absurd (show most < 0 by assumption) (by omega)
    refine w_toI (b := .ofNat most) rfl hwm ?_
    repeat' (first | refine w_seq ?_ | refine w_reg ?_ | refine w_e ?_ | refine w_on rfl ?_ | refine w_len rfl (by assumption) ?_ | refine w_gtrN rfl rfl (fun hc => ?_) (fun hc => ?_) | refine w_opq rfl rfl ?_ | refine w_cond_t rfl ?_ | refine w_cond_f rfl ?_ | refine w_ret ?_ | refine w_rt rfl ?_)
    · have hc : most < m := by assumption
      rw [if_neg (by omega)]
      exact ⟨⟨_, by decide, rfl⟩, ExtX.refl _ _⟩
    have hcm : m ≤ most := by assumption
    refine w_subN rfl rfl (by simp) (by simp; omega) ?_
    have hwl : (bs.map byteC).length - (bs.length - r.length) = r.length := by rw [List.length_map]; omega
    rw [hwl]
    refine w_toI (b := .ofNat r.length) rfl (by rw [wrap_u64]; show ((r.length : Nat) : Int) % _ = ((r.length : Nat) : Int); omega) ?_
    repeat' (first | refine w_seq ?_ | refine w_reg ?_ | refine w_e ?_ | refine w_gtrN rfl rfl (fun hc => ?_) (fun hc => ?_) | refine w_opq rfl rfl ?_ | refine w_cond_t rfl ?_ | refine w_cond_f rfl ?_ | refine w_skip ?_ | refine w_ret ?_ | refine w_rt rfl ?_)
    · have hc2 : r.length < m := by assumption
      rw [if_neg (by omega)]
      exact ⟨⟨_, by decide, rfl⟩, ExtX.refl _ _⟩
    have hc2 : m ≤ r.length := by assumption
    rw [if_pos ⟨hcm, hc2⟩]
    refine w_toI (b := .ofNat m) rfl (wrap_i64_nat (by omega)) ?_
    repeat' (first | refine w_addN rfl rfl (by omega) ?_)
    refine w_slLH rfl rfl rfl hb (by omega) (by rw [List.length_map]; omega) fun v1 p1 _ => ?_
    have hq : (List.take (bs.length - r.length + m) (bs.map byteC)).drop (bs.length - r.length) = (r.take m).map byteC := by
      rw [← List.map_take, ← List.map_drop, List.drop_take, ← hr1]
      congr 2
      omega
    rw [hq] at p1
    refine w_call rfl ((cloneB_ok hO.cb p1.rs (by simp; omega)).mono fun w h2 ⟨hw, hE, hn⟩ => ?_)
    repeat' (first | refine w_opq rfl rfl ?_)
    refine w_toI (b := .ofNat m) rfl (wrap_i64_nat (by omega)) ?_
    repeat' (first | refine w_e ?_ | refine w_addN rfl rfl (by omega) ?_ | refine w_opq rfl rfl ?_ | refine w_ret ?_ | refine w_rt rfl ?_)
    have hB2 : Bytes (r.take m) := fun x hx => by
      rw [hr1] at hx
      exact hB x (List.mem_of_mem_drop (List.mem_of_mem_take hx))
    refine ⟨⟨w, ?_, ?_, by rw [List.length_drop]; omega, hn⟩, hE⟩
    · rw [List.length_drop, show bs.length - (r.length - m) = bs.length - r.length + m by omega]
      rfl
    · rw [u8_forth hB2]
      exact hw.rs
end AmT
