/-
  ir.Sum at any module: a number that hangs on a function's parameters, variables and instructions alone; of no function 0. Conditions: the module is one, by its cells.
-/
import Derived.Test.YtofigbfckofbmaaGreatDoorSum1
import Derived.Test.YtofigbfckofbmaaGreatDoorCrc
namespace AmT
open Go Am
set_option maxRecDepth 100000
set_option linter.unusedSimpArgs false
set_option linter.unusedVariables false
set_option maxHeartbeats 2000000
variable {O : CallF}

def insInts : List V → List Int
  | [.int _ o, .int _ a, .int _ b] => [IntKind.i64.wrap o, a, b]
  | _ => []

def codeInts (code : List (List V)) : List Int := (code.map insInts).flatten

theorem codeInts_len (code : List (List V)) : (codeInts code).length ≤ 3 * code.length := by
  induction code with
  | nil => simp [codeInts]
  | cons a l ih =>
    have : (insInts a).length ≤ 3 := by unfold insInts; split <;> simp
    simp only [codeInts, List.map_cons, List.flatten_cons, List.length_append, List.length_cons] at ih ⊢
    omega

theorem codeInts_take {l : List (List V)} {j : Nat} (hj : j < l.length) : codeInts (l.take (j + 1)) = codeInts (l.take j) ++ insInts l[j] := by
  unfold codeInts
  rw [List.take_add_one, List.getElem?_eq_getElem hj, List.map_append, List.flatten_append]
  simp only [Option.toList, List.map_cons, List.map_nil, List.flatten_cons, List.flatten_nil, List.append_nil]

/-- A function's sum. -/
def sumOf (p vs : Int) (code : List (List V)) : Int := crcOf (intsB ([p, vs, Int.ofNat code.length] ++ codeInts code))

theorem uB_byte : ∀ (k : Nat) (y : Int), ∀ c ∈ uB k y, ByteC c
  | 0, y, c, h => by simp [uB] at h; exact ⟨_, h⟩
  | k + 1, y, c, h => by
    unfold uB at h
    split at h
    · simp at h; exact ⟨_, h⟩
    · simp at h
      rcases h with h | h
      · exact ⟨_, h⟩
      · exact uB_byte k _ c h

theorem intsB_byte (l : List Int) : ∀ c ∈ intsB l, ByteC c := by
  intro c hc
  simp only [intsB, List.mem_flatten, List.mem_map] at hc
  obtain ⟨x, ⟨n, _, rfl⟩, hx⟩ := hc
  exact uB_byte _ _ c hx

/-- What is off in these contracts: calls that are walked. -/
structure OffSum (O : CallF) : Prop where
  u : ∀ a h, O 33 a h = none
  s1 : ∀ a h, O 32 a h = none
  c : ∀ a h, O 34 a h = none
  s : ∀ a h, O 11 a h = none

/-- Of no function. -/
theorem sum_none (hO : OffSum O) {h0 : Heap} {c : List V} {lf : List (List V)} {a b f d : V} {n : Int} (hc : c = [a, b, f, d]) (h1 : allOne c = true) (hf : RS h0 4 f lf) (hn : n < 0 ∨ Int.ofNat lf.length ≤ n) :
    WPc tab.get O 11 [.agg c, .int .i64 n] h0 (fun v h' => v = .int .u32 0 ∧ Ext h0 h') := by
  subst hc
  refine w_fn' (hO.s _ _) rfl rfl (by simp only [c11, initV, nth] <;> rfl) ?_
  refine w_seq (w_reg (w_box rfl rfl h1 fun id h2 ho hid hE => ?_))
  replace hf := hf.ext0 hE
  repeat' (first
    | refine w_seq ?_
    | refine w_reg ?_
    | refine w_end (by simp only [outsV, nth, setV, List.take_succ_cons, List.take_zero, List.length_cons, List.length_nil, Nat.zero_add, Nat.reduceAdd] <;> rfl) ?_
    | refine w_off rfl ?_
    | refine w_rf rfl (by assumption) (by rfl) (by rfl) (by rfl) ?_
    | refine w_rfg rfl rfl (by assumption) (by rfl) (by rfl) (by rfl) (by rfl) ?_
    | refine w_on rfl ?_
    | refine w_len rfl (by assumption) ?_
    | refine w_lssN rfl rfl (fun hc => ?_) (fun hc => ?_)
    | refine w_leqN rfl rfl (fun hc => ?_) (fun hc => ?_)
    | refine w_gtrN rfl rfl (fun hc => ?_) (fun hc => ?_)
    | refine w_geqN rfl rfl (fun hc => ?_) (fun hc => ?_)
    | refine w_eqlN rfl rfl (fun hc => ?_) (fun hc => ?_)
    | refine w_neqN rfl rfl (fun hc => ?_) (fun hc => ?_)
    | refine w_lss rfl rfl (fun hc => ?_) (fun hc => ?_)
    | refine w_leq rfl rfl (fun hc => ?_) (fun hc => ?_)
    | refine w_gtr rfl rfl (fun hc => ?_) (fun hc => ?_)
    | refine w_geq rfl rfl (fun hc => ?_) (fun hc => ?_)
    | refine w_eql rfl rfl (fun hc => ?_) (fun hc => ?_)
    | refine w_neq rfl rfl (fun hc => ?_) (fun hc => ?_)
    | refine w_addN rfl rfl (by omega) ?_
    | refine w_opk rfl rfl ?_
    | refine w_cond_t rfl ?_
    | refine w_cond_f rfl ?_
    | refine w_skip ?_
    | refine w_exit rfl ?_
    | refine w_ret ?_
    | refine w_rt rfl ?_)
  · exact ⟨rfl, hE⟩
  · exact ⟨rfl, hE⟩
  · exfalso
    rename_i hc1
    have e1 : Int.ofNat 0 ≤ n := by assumption
    have e2 : n < Int.ofNat lf.length := by assumption
    have e3 : Int.ofNat 0 = 0 := rfl
    omega

theorem sum_some (hO : OffSum O) {h0 : Heap} {c : List V} {lf : List (List V)} {a b' f d : V} {k : Nat} {nm : List UInt8} {p vs : Int} {cs : V} {code : List (List V)} (hc : c = [a, b', f, d]) (h1 : allOne c = true) (hf : RS h0 4 f lf) (hk : k < lf.length)
    (he : lf[k] = [.str nm, .int .i64 p, .int .i64 vs, cs]) (hcs : RS h0 3 cs code) (hi : ∀ i ∈ code, InsC i) (hl : code.length ≤ 2097152) :
    WPc tab.get O 11 [.agg c, .int .i64 (.ofNat k)] h0 (fun v h' => v = .int .u32 (sumOf p vs code) ∧ Ext h0 h') := by
  subst hc
  refine w_fn' (hO.s _ _) rfl rfl (by simp only [c11, initV, nth] <;> rfl) ?_
  have hcl := hcs.lt
  refine w_seq (w_reg (w_box rfl rfl h1 fun id h2 ho hid hE => ?_))
  have hid2 := ho.1
  replace hf := hf.ext0 hE
  replace hcs := hcs.ext0 hE
  repeat' (first
    | refine w_seq ?_
    | refine w_reg ?_
    | refine w_end (by simp only [outsV, nth, setV, List.take_succ_cons, List.take_zero, List.length_cons, List.length_nil, Nat.zero_add, Nat.reduceAdd] <;> rfl) ?_
    | refine w_off rfl ?_
    | refine w_rf rfl (by assumption) (by rfl) (by rfl) (by rfl) ?_
    | refine w_rfg rfl rfl (by assumption) (by rfl) (by rfl) (by rfl) (by rfl) ?_
    | refine w_on rfl ?_
    | refine w_len rfl (by assumption) ?_
    | refine w_lssN rfl rfl (fun hc => ?_) (fun hc => ?_)
    | refine w_leqN rfl rfl (fun hc => ?_) (fun hc => ?_)
    | refine w_gtrN rfl rfl (fun hc => ?_) (fun hc => ?_)
    | refine w_geqN rfl rfl (fun hc => ?_) (fun hc => ?_)
    | refine w_eqlN rfl rfl (fun hc => ?_) (fun hc => ?_)
    | refine w_neqN rfl rfl (fun hc => ?_) (fun hc => ?_)
    | refine w_lss rfl rfl (fun hc => ?_) (fun hc => ?_)
    | refine w_leq rfl rfl (fun hc => ?_) (fun hc => ?_)
    | refine w_gtr rfl rfl (fun hc => ?_) (fun hc => ?_)
    | refine w_geq rfl rfl (fun hc => ?_) (fun hc => ?_)
    | refine w_eql rfl rfl (fun hc => ?_) (fun hc => ?_)
    | refine w_neq rfl rfl (fun hc => ?_) (fun hc => ?_)
    | refine w_addN rfl rfl (by omega) ?_
    | refine w_opk rfl rfl ?_
    | refine w_cond_t rfl ?_
    | refine w_cond_f rfl ?_
    | refine w_skip ?_
    | refine w_exit rfl ?_
    | refine w_ret ?_
    | refine w_rt rfl ?_)
  · exact absurd hc (Nat.not_lt_zero _)
  · exact absurd hc (by omega)
  refine w_alloc fun ib h3 hb hib hE3 => ?_
  have hib2 := hb.1
  replace hf := hf.ext0 hE3
  replace hcs := hcs.ext0 hE3
  replace ho := ho.ext0 hE3
  repeat' (first
    | refine w_seq ?_
    | refine w_reg ?_
    | refine w_end (by simp only [outsV, nth, setV, List.take_succ_cons, List.take_zero, List.length_cons, List.length_nil, Nat.zero_add, Nat.reduceAdd] <;> rfl) ?_
    | refine w_off rfl ?_
    | refine w_rf rfl (by assumption) (by rfl) (by rfl) (by rfl) ?_
    | refine w_rfg rfl rfl (by assumption) (by rfl) (by rfl) (by rfl) (by rfl) ?_
    | refine w_on rfl ?_
    | refine w_len rfl (by assumption) ?_
    | refine w_lssN rfl rfl (fun hc => ?_) (fun hc => ?_)
    | refine w_leqN rfl rfl (fun hc => ?_) (fun hc => ?_)
    | refine w_gtrN rfl rfl (fun hc => ?_) (fun hc => ?_)
    | refine w_geqN rfl rfl (fun hc => ?_) (fun hc => ?_)
    | refine w_eqlN rfl rfl (fun hc => ?_) (fun hc => ?_)
    | refine w_neqN rfl rfl (fun hc => ?_) (fun hc => ?_)
    | refine w_lss rfl rfl (fun hc => ?_) (fun hc => ?_)
    | refine w_leq rfl rfl (fun hc => ?_) (fun hc => ?_)
    | refine w_gtr rfl rfl (fun hc => ?_) (fun hc => ?_)
    | refine w_geq rfl rfl (fun hc => ?_) (fun hc => ?_)
    | refine w_eql rfl rfl (fun hc => ?_) (fun hc => ?_)
    | refine w_neq rfl rfl (fun hc => ?_) (fun hc => ?_)
    | refine w_addN rfl rfl (by omega) ?_
    | refine w_opk rfl rfl ?_
    | refine w_cond_t rfl ?_
    | refine w_cond_f rfl ?_
    | refine w_skip ?_
    | refine w_exit rfl ?_
    | refine w_ret ?_
    | refine w_rt rfl ?_)
  refine w_iadr rfl rfl hf hk fun q hq => ?_
  rw [he] at hq
  refine w_loadA rfl hq rfl ?_
  refine w_alloc fun ic h4 hc4 hic hE4 => ?_
  replace hb := hb.ext0 hE4
  replace hcs := hcs.ext0 hE4
  have hone : allOne [.str nm, .int .i64 p, .int .i64 vs, cs] = true := by simp only [allOne, hcs.one]; rfl
  refine w_store rfl rfl hc4 rfl hone (by decide) (by simp) fun h5 hc5 hE5 hn5 => ?_
  replace hc5 : Own h5 ic [.str nm, .int .i64 p, .int .i64 vs, cs] := hc5
  replace hb := hb.ext hE5 (by simp; omega)
  have hE05 : Ext h0 h5 := (((hE.trans hE3).trans hE4).step hE5 fun j hj => by simp at hj; exact .inr (by have := hE.1; omega))
  replace hcs := hcs.ext hE5 (fun jd off len ver e f hv => by
    have := hcl jd (by rw [hv]; simp [slIds])
    have := hE.1
    simp; omega)
  repeat' (first
    | refine w_seq ?_
    | refine w_reg ?_
    | refine w_end (by simp only [outsV, nth, setV, List.take_succ_cons, List.take_zero, List.length_cons, List.length_nil, Nat.zero_add, Nat.reduceAdd] <;> rfl) ?_
    | refine w_off rfl ?_
    | refine w_rf rfl (by assumption) (by rfl) (by rfl) (by rfl) ?_
    | refine w_rfg rfl rfl (by assumption) (by rfl) (by rfl) (by rfl) (by rfl) ?_
    | refine w_on rfl ?_
    | refine w_len rfl (by assumption) ?_
    | refine w_lssN rfl rfl (fun hc => ?_) (fun hc => ?_)
    | refine w_leqN rfl rfl (fun hc => ?_) (fun hc => ?_)
    | refine w_gtrN rfl rfl (fun hc => ?_) (fun hc => ?_)
    | refine w_geqN rfl rfl (fun hc => ?_) (fun hc => ?_)
    | refine w_eqlN rfl rfl (fun hc => ?_) (fun hc => ?_)
    | refine w_neqN rfl rfl (fun hc => ?_) (fun hc => ?_)
    | refine w_lss rfl rfl (fun hc => ?_) (fun hc => ?_)
    | refine w_leq rfl rfl (fun hc => ?_) (fun hc => ?_)
    | refine w_gtr rfl rfl (fun hc => ?_) (fun hc => ?_)
    | refine w_geq rfl rfl (fun hc => ?_) (fun hc => ?_)
    | refine w_eql rfl rfl (fun hc => ?_) (fun hc => ?_)
    | refine w_neq rfl rfl (fun hc => ?_) (fun hc => ?_)
    | refine w_addN rfl rfl (by omega) ?_
    | refine w_opk rfl rfl ?_
    | refine w_cond_t rfl ?_
    | refine w_cond_f rfl ?_
    | refine w_skip ?_
    | refine w_exit rfl ?_
    | refine w_ret ?_
    | refine w_rt rfl ?_)
  refine w_bslice [[.int .i64 p], [.int .i64 vs], [.int .i64 (.ofNat code.length)]] rfl rfl rfl rfl (by simp) fun s h6 hs6 hf6 => ?_
  have hE6 := hf6.ext0
  replace hb := hb.ext0 hE6
  replace hcs := hcs.ext0 hE6
  replace hc5 := hc5.ext0 hE6
  have hs6' : RS h6 1 s ([p, vs, Int.ofNat code.length].map fun n => [.int .i64 n]) := hs6.rs
  refine w_callv rfl rfl ((sum1_ok (bs := []) hO.u hO.s1 hs6' hb (Ow.nils _ _) (by simp [slIds]) (fun j hj => ?_) (by simp)).mono fun _ h7 ⟨sv, hb7, ho7, hd7, hE7, hn7⟩ => ?_)
  · rcases hf6.2 j hj with e | e
    · cases e
    · have := hE4.1
      exact ⟨by omega, by simp [slIds]⟩
  have hib0 : h0.n ≤ ib := by have := hE.1; omega
  have hE07 : Ext h0 h7 := (hE05.trans hE6).step hE7 fun j hj => by simp [slIds] at hj; exact .inr (by omega)
  replace hcs := hcs.ext hE7 (fun jd off len ver e f hv => by
    have := hcl jd (by rw [hv]; simp [slIds])
    simp [slIds]; omega)
  replace hc5 := hc5.ext hE7 (by simp [slIds]; omega)
  have hn0 : ∀ j ∈ slIds sv, h0.n ≤ j := fun j hj => by
    rcases hn7 j hj with e | e
    · cases e
    · have := (hE05.trans hE6).1; omega
  repeat' (first
    | refine w_seq ?_
    | refine w_reg ?_
    | refine w_end (by simp only [outsV, nth, setV, List.take_succ_cons, List.take_zero, List.length_cons, List.length_nil, Nat.zero_add, Nat.reduceAdd] <;> rfl) ?_
    | refine w_off rfl ?_
    | refine w_rf rfl (by assumption) (by rfl) (by rfl) (by rfl) ?_
    | refine w_rfg rfl rfl (by assumption) (by rfl) (by rfl) (by rfl) (by rfl) ?_
    | refine w_on rfl ?_
    | refine w_len rfl (by assumption) ?_
    | refine w_lssN rfl rfl (fun hc => ?_) (fun hc => ?_)
    | refine w_leqN rfl rfl (fun hc => ?_) (fun hc => ?_)
    | refine w_gtrN rfl rfl (fun hc => ?_) (fun hc => ?_)
    | refine w_geqN rfl rfl (fun hc => ?_) (fun hc => ?_)
    | refine w_eqlN rfl rfl (fun hc => ?_) (fun hc => ?_)
    | refine w_neqN rfl rfl (fun hc => ?_) (fun hc => ?_)
    | refine w_lss rfl rfl (fun hc => ?_) (fun hc => ?_)
    | refine w_leq rfl rfl (fun hc => ?_) (fun hc => ?_)
    | refine w_gtr rfl rfl (fun hc => ?_) (fun hc => ?_)
    | refine w_geq rfl rfl (fun hc => ?_) (fun hc => ?_)
    | refine w_eql rfl rfl (fun hc => ?_) (fun hc => ?_)
    | refine w_neq rfl rfl (fun hc => ?_) (fun hc => ?_)
    | refine w_addN rfl rfl (by omega) ?_
    | refine w_opk rfl rfl ?_
    | refine w_cond_t rfl ?_
    | refine w_cond_f rfl ?_
    | refine w_skip ?_
    | refine w_exit rfl ?_
    | refine w_ret ?_
    | refine w_rt rfl ?_)
  refine w_count (fun j vs' h => ∃ b sv x, vs' = [.agg [a, b', f, d], .int .i64 (.ofNat k), .int .u32 (.ofNat 0), .ptr id 0 0 4, .bool false, .ptr ib 0 0 1, .fn 32 [] [.ptr ib 0 0 1], .ptr ic 0 0 4, .int .i64 (.ofNat j), .int .i64 (.ofNat code.length), b, cs, x] ∧
    Own h ib [sv] ∧ Ow h 1 sv (intsB ([p, vs, Int.ofNat code.length] ++ codeInts (code.take j))) ∧ ib ∉ slIds sv ∧ Ext h0 h ∧ RS h 3 cs code ∧ ∀ j ∈ slIds sv, h0.n ≤ j) code.length ⟨_, sv, _, rfl, hb7, by simpa [codeInts] using ho7, hd7, hE07, hcs, hn0⟩ ?_
  clear hb7 ho7 hd7 hE07 hcs hn0 hn7 hE7 hc5 hE6 hs6 hs6' hf6 hb
  rintro j vs' h hj ⟨b, sv, x, rfl, hb, ho, hd, hE0, hcs, hn0⟩
  repeat' (first
    | refine w_seq ?_
    | refine w_reg ?_
    | refine w_end (by simp only [outsV, nth, setV, List.take_succ_cons, List.take_zero, List.length_cons, List.length_nil, Nat.zero_add, Nat.reduceAdd] <;> rfl) ?_
    | refine w_off rfl ?_
    | refine w_rf rfl (by assumption) (by rfl) (by rfl) (by rfl) ?_
    | refine w_rfg rfl rfl (by assumption) (by rfl) (by rfl) (by rfl) (by rfl) ?_
    | refine w_on rfl ?_
    | refine w_len rfl (by assumption) ?_
    | refine w_lssN rfl rfl (fun hc => ?_) (fun hc => ?_)
    | refine w_leqN rfl rfl (fun hc => ?_) (fun hc => ?_)
    | refine w_gtrN rfl rfl (fun hc => ?_) (fun hc => ?_)
    | refine w_geqN rfl rfl (fun hc => ?_) (fun hc => ?_)
    | refine w_eqlN rfl rfl (fun hc => ?_) (fun hc => ?_)
    | refine w_neqN rfl rfl (fun hc => ?_) (fun hc => ?_)
    | refine w_lss rfl rfl (fun hc => ?_) (fun hc => ?_)
    | refine w_leq rfl rfl (fun hc => ?_) (fun hc => ?_)
    | refine w_gtr rfl rfl (fun hc => ?_) (fun hc => ?_)
    | refine w_geq rfl rfl (fun hc => ?_) (fun hc => ?_)
    | refine w_eql rfl rfl (fun hc => ?_) (fun hc => ?_)
    | refine w_neq rfl rfl (fun hc => ?_) (fun hc => ?_)
    | refine w_addN rfl rfl (by omega) ?_
    | refine w_opk rfl rfl ?_
    | refine w_cond_t rfl ?_
    | refine w_cond_f rfl ?_
    | refine w_skip ?_
    | refine w_exit rfl ?_
    | refine w_ret ?_
    | refine w_rt rfl ?_)
  · refine w_block ?_
    repeat' (first
      | refine w_seq ?_
      | refine w_reg ?_
      | refine w_end (by simp only [outsV, nth, setV, List.take_succ_cons, List.take_zero, List.length_cons, List.length_nil, Nat.zero_add, Nat.reduceAdd] <;> rfl) ?_
      | refine w_off rfl ?_
      | refine w_rf rfl (by assumption) (by rfl) (by rfl) (by rfl) ?_
      | refine w_rfg rfl rfl (by assumption) (by rfl) (by rfl) (by rfl) (by rfl) ?_
      | refine w_on rfl ?_
      | refine w_len rfl (by assumption) ?_
      | refine w_lssN rfl rfl (fun hc => ?_) (fun hc => ?_)
      | refine w_leqN rfl rfl (fun hc => ?_) (fun hc => ?_)
      | refine w_gtrN rfl rfl (fun hc => ?_) (fun hc => ?_)
      | refine w_geqN rfl rfl (fun hc => ?_) (fun hc => ?_)
      | refine w_eqlN rfl rfl (fun hc => ?_) (fun hc => ?_)
      | refine w_neqN rfl rfl (fun hc => ?_) (fun hc => ?_)
      | refine w_lss rfl rfl (fun hc => ?_) (fun hc => ?_)
      | refine w_leq rfl rfl (fun hc => ?_) (fun hc => ?_)
      | refine w_gtr rfl rfl (fun hc => ?_) (fun hc => ?_)
      | refine w_geq rfl rfl (fun hc => ?_) (fun hc => ?_)
      | refine w_eql rfl rfl (fun hc => ?_) (fun hc => ?_)
      | refine w_neq rfl rfl (fun hc => ?_) (fun hc => ?_)
      | refine w_addN rfl rfl (by omega) ?_
      | refine w_opk rfl rfl ?_
      | refine w_cond_t rfl ?_
      | refine w_cond_f rfl ?_
      | refine w_skip ?_
      | refine w_exit rfl ?_
      | refine w_ret ?_
      | refine w_rt rfl ?_)
    have hj' : j < code.length := by assumption
    refine w_iadr rfl rfl hcs hj' fun q hq => ?_
    obtain ⟨oo, aa, bb, hins⟩ := hi _ (List.getElem_mem hj')
    rw [hins] at hq
    refine w_loadA rfl hq rfl ?_
    refine w_alloc fun iv h8 hv8 hiv hE8 => ?_
    have hbi := hb.1
    have holt := ho.rs.lt
    replace hb := hb.ext0 hE8
    replace ho := ho.ext0 hE8
    replace hcs := hcs.ext0 hE8
    refine w_store rfl rfl hv8 rfl rfl (by decide) (by simp) fun h9 hv9 hE9 hn9 => ?_
    replace hv9 : Own h9 iv [.int .u8 oo, .int .i64 aa, .int .i64 bb] := hv9
    have hivs : ∀ jd ∈ slIds cs, jd < h0.n := hcl
    replace hb := hb.ext hE9 (by simp; omega)
    replace ho := ho.ext hE9 (fun jd hjd => by have := holt jd hjd; simp; omega)
    have hE01 := hE0.1
    replace hcs := hcs.ext hE9 (fun jd off len ver e f hv => by
      have := hcl jd (by rw [hv]; simp [slIds])
      simp; omega)
    have hE09 : Ext h0 h9 := (hE0.trans hE8).step hE9 fun jd hjd => by simp at hjd; exact .inr (by omega)
    repeat' (first
      | refine w_seq ?_
      | refine w_reg ?_
      | refine w_end (by simp only [outsV, nth, setV, List.take_succ_cons, List.take_zero, List.length_cons, List.length_nil, Nat.zero_add, Nat.reduceAdd] <;> rfl) ?_
      | refine w_off rfl ?_
      | refine w_rf rfl (by assumption) (by rfl) (by rfl) (by rfl) ?_
      | refine w_rfg rfl rfl (by assumption) (by rfl) (by rfl) (by rfl) (by rfl) ?_
      | refine w_on rfl ?_
      | refine w_len rfl (by assumption) ?_
      | refine w_lssN rfl rfl (fun hc => ?_) (fun hc => ?_)
      | refine w_leqN rfl rfl (fun hc => ?_) (fun hc => ?_)
      | refine w_gtrN rfl rfl (fun hc => ?_) (fun hc => ?_)
      | refine w_geqN rfl rfl (fun hc => ?_) (fun hc => ?_)
      | refine w_eqlN rfl rfl (fun hc => ?_) (fun hc => ?_)
      | refine w_neqN rfl rfl (fun hc => ?_) (fun hc => ?_)
      | refine w_lss rfl rfl (fun hc => ?_) (fun hc => ?_)
      | refine w_leq rfl rfl (fun hc => ?_) (fun hc => ?_)
      | refine w_gtr rfl rfl (fun hc => ?_) (fun hc => ?_)
      | refine w_geq rfl rfl (fun hc => ?_) (fun hc => ?_)
      | refine w_eql rfl rfl (fun hc => ?_) (fun hc => ?_)
      | refine w_neq rfl rfl (fun hc => ?_) (fun hc => ?_)
      | refine w_addN rfl rfl (by omega) ?_
      | refine w_opk rfl rfl ?_
      | refine w_cond_t rfl ?_
      | refine w_cond_f rfl ?_
      | refine w_skip ?_
      | refine w_exit rfl ?_
      | refine w_ret ?_
      | refine w_rt rfl ?_)
    refine w_bslice [[.int .i64 (IntKind.i64.wrap oo)], [.int .i64 aa], [.int .i64 bb]] rfl rfl rfl rfl (by simp) fun s h10 hs10 hf10 => ?_
    have hE10 := hf10.ext0
    have holt2 := ho.rs.lt
    have hb9 := hb.1
    replace hb := hb.ext0 hE10
    replace ho := ho.ext0 hE10
    replace hcs := hcs.ext0 hE10
    have hs10' : RS h10 1 s ((insInts code[j]).map fun n => [.int .i64 n]) := by rw [hins]; exact hs10.rs
    have hil : (insInts code[j]).length = 3 := by rw [hins]; rfl
    have hlen := intsB_len ([p, vs, Int.ofNat code.length] ++ codeInts (code.take j))
    have hlen2 := codeInts_len (code.take j)
    refine w_callv rfl rfl ((sum1_ok hO.u hO.s1 hs10' hb ho hd (fun jd hjd => ?_) ?_).mono fun _ h11 ⟨sv', hb11, ho11, hd11, hE11, hn11⟩ => ?_)
    · rcases hf10.2 jd hjd with e | e
      · cases e
      · exact ⟨by omega, fun e' => by have := holt2 jd e'; omega⟩
    · rw [hil]; simp only [List.length_append, List.length_cons, List.length_nil] at hlen; simp at hlen2; omega
    repeat' (first
      | refine w_seq ?_
      | refine w_reg ?_
      | refine w_end (by simp only [outsV, nth, setV, List.take_succ_cons, List.take_zero, List.length_cons, List.length_nil, Nat.zero_add, Nat.reduceAdd] <;> rfl) ?_
      | refine w_off rfl ?_
      | refine w_rf rfl (by assumption) (by rfl) (by rfl) (by rfl) ?_
      | refine w_rfg rfl rfl (by assumption) (by rfl) (by rfl) (by rfl) (by rfl) ?_
      | refine w_on rfl ?_
      | refine w_len rfl (by assumption) ?_
      | refine w_lssN rfl rfl (fun hc => ?_) (fun hc => ?_)
      | refine w_leqN rfl rfl (fun hc => ?_) (fun hc => ?_)
      | refine w_gtrN rfl rfl (fun hc => ?_) (fun hc => ?_)
      | refine w_geqN rfl rfl (fun hc => ?_) (fun hc => ?_)
      | refine w_eqlN rfl rfl (fun hc => ?_) (fun hc => ?_)
      | refine w_neqN rfl rfl (fun hc => ?_) (fun hc => ?_)
      | refine w_lss rfl rfl (fun hc => ?_) (fun hc => ?_)
      | refine w_leq rfl rfl (fun hc => ?_) (fun hc => ?_)
      | refine w_gtr rfl rfl (fun hc => ?_) (fun hc => ?_)
      | refine w_geq rfl rfl (fun hc => ?_) (fun hc => ?_)
      | refine w_eql rfl rfl (fun hc => ?_) (fun hc => ?_)
      | refine w_neq rfl rfl (fun hc => ?_) (fun hc => ?_)
      | refine w_addN rfl rfl (by omega) ?_
      | refine w_opk rfl rfl ?_
      | refine w_cond_t rfl ?_
      | refine w_cond_f rfl ?_
      | refine w_skip ?_
      | refine w_exit rfl ?_
      | refine w_ret ?_
      | refine w_rt rfl ?_)
    refine ⟨hj', _, sv', _, rfl, hb11, ?_, hd11, ?_, ?_, ?_⟩
    · rw [codeInts_take hj', ← List.append_assoc, intsB_append]; exact ho11
    · exact (hE09.trans hE10).step hE11 fun jd hjd => by
        rcases List.mem_cons.1 hjd with rfl | e
        · exact .inr hib0
        · exact .inr (hn0 jd e)
    · exact hcs.ext hE11 (fun jd off len ver e f hv => by
        have hlt := hcl jd (by rw [hv]; simp [slIds])
        intro hm
        rcases List.mem_cons.1 hm with rfl | e
        · omega
        · have := hn0 jd e; omega)
    · intro jd hjd
      rcases hn11 jd hjd with e | e
      · exact hn0 jd e
      · have := (hE09.trans hE10).1; omega
  · have hjl : j = code.length := by omega
    subst hjl
    rw [List.take_length] at ho
    refine w_load1 rfl (hb.at rfl) rfl ?_
    have hlen := intsB_len ([p, vs, Int.ofNat code.length] ++ codeInts code)
    have hlen2 := codeInts_len code
    refine w_call rfl ((crc_ok hO.c ho.rs (by simp only [List.length_append, List.length_cons, List.length_nil] at hlen; omega) (intsB_byte _)).mono fun v h12 ⟨hv, hh⟩ => ?_)
    subst hv hh
    repeat' (first
      | refine w_seq ?_
      | refine w_reg ?_
      | refine w_end (by simp only [outsV, nth, setV, List.take_succ_cons, List.take_zero, List.length_cons, List.length_nil, Nat.zero_add, Nat.reduceAdd] <;> rfl) ?_
      | refine w_off rfl ?_
      | refine w_rf rfl (by assumption) (by rfl) (by rfl) (by rfl) ?_
      | refine w_rfg rfl rfl (by assumption) (by rfl) (by rfl) (by rfl) (by rfl) ?_
      | refine w_on rfl ?_
      | refine w_len rfl (by assumption) ?_
      | refine w_lssN rfl rfl (fun hc => ?_) (fun hc => ?_)
      | refine w_leqN rfl rfl (fun hc => ?_) (fun hc => ?_)
      | refine w_gtrN rfl rfl (fun hc => ?_) (fun hc => ?_)
      | refine w_geqN rfl rfl (fun hc => ?_) (fun hc => ?_)
      | refine w_eqlN rfl rfl (fun hc => ?_) (fun hc => ?_)
      | refine w_neqN rfl rfl (fun hc => ?_) (fun hc => ?_)
      | refine w_lss rfl rfl (fun hc => ?_) (fun hc => ?_)
      | refine w_leq rfl rfl (fun hc => ?_) (fun hc => ?_)
      | refine w_gtr rfl rfl (fun hc => ?_) (fun hc => ?_)
      | refine w_geq rfl rfl (fun hc => ?_) (fun hc => ?_)
      | refine w_eql rfl rfl (fun hc => ?_) (fun hc => ?_)
      | refine w_neq rfl rfl (fun hc => ?_) (fun hc => ?_)
      | refine w_addN rfl rfl (by omega) ?_
      | refine w_opk rfl rfl ?_
      | refine w_cond_t rfl ?_
      | refine w_cond_f rfl ?_
      | refine w_skip ?_
      | refine w_exit rfl ?_
      | refine w_ret ?_
      | refine w_rt rfl ?_)
    exact ⟨rfl, hE0⟩
end AmT
