/-
  bytes.Crc at any bytes: a number that hangs on the bytes alone. Conditions: the slice is of bytes.
-/
import Derived.Test.YtofigbfckofbmaaGreatDoorW
namespace AmT
open Go Am
set_option maxRecDepth 100000
set_option linter.unusedSimpArgs false
set_option linter.unusedVariables false
set_option maxHeartbeats 2000000
variable {O : CallF}

def intOf : Option V → Int
  | some (.int _ n) => n
  | _ => 0
def crcBit (n : Int) : Int := intOf ((binV .shr .plain (.int .u32 n) (.int .u64 1)).bind fun a => (binV .and .plain (.int .u32 n) (.int .u32 1)).bind fun b => (unV .neg b).bind fun c => (binV .and .plain (.int .u32 3988292384) c).bind fun d => binV .xor .plain a d)
def crcN : Nat → Int → Int
  | 0, n => n
  | k + 1, n => crcBit (crcN k n)
def byteOf : List V → Int
  | [.int _ n] => n
  | _ => 0
def crcByte (x : Int) (c : List V) : Int := crcN 8 (intOf (binV .xor .plain (.int .u32 x) (.int .u32 (IntKind.u32.wrap (byteOf c)))))
def crcTo (l : List (List V)) : Int := l.foldl crcByte 4294967295
def crcOf (l : List (List V)) : Int := intOf (unV .xor (.int .u32 (crcTo l)))
def ByteC (c : List V) : Prop := ∃ n : Int, c = [.int .u8 n]

theorem crcTo_step {l : List (List V)} {j : Nat} (hj : j < l.length) : crcTo (l.take (j + 1)) = crcByte (crcTo (l.take j)) l[j] := by
  unfold crcTo
  rw [List.take_add_one, List.getElem?_eq_getElem hj]
  simp only [Option.toList, List.foldl_append, List.foldl_cons, List.foldl_nil]

theorem crc_ok (hO : ∀ a h, O 34 a h = none) {h0 : Heap} {s : V} {l : List (List V)} (hs : RS h0 1 s l) (hl : l.length ≤ 4294967296) (hb : ∀ c ∈ l, ByteC c) :
    WPc tab.get O 34 [s] h0 (fun v h' => v = .int .u32 (crcOf l) ∧ h' = h0) := by
  refine w_fn' (hO _ _) rfl rfl (by simp only [c34, initV, nth] <;> rfl) ?_
  repeat' (first
    | refine w_seq ?_
    | refine w_reg ?_
    | refine w_end (by simp only [outsV, nth, setV, List.take_succ_cons, List.take_zero, List.length_cons, List.length_nil, Nat.zero_add, Nat.reduceAdd] <;> rfl) ?_
    | refine w_off rfl ?_
    | refine w_rf rfl (by assumption) (by rfl) (by rfl) (by rfl) ?_
    | refine w_rfg rfl rfl (by assumption) (by rfl) (by rfl) (by rfl) (by rfl) ?_
    | refine w_on rfl ?_
    | refine w_len rfl (by assumption) ?_
    | refine w_lssN rfl rfl (fun hc => ?_) (fun hc => ?_)
    | refine w_leqN rfl rfl (fun hc => ?_) (fun hc => ?_)
    | refine w_gtrN rfl rfl (fun hc => ?_) (fun hc => ?_)
    | refine w_geqN rfl rfl (fun hc => ?_) (fun hc => ?_)
    | refine w_eqlN rfl rfl (fun hc => ?_) (fun hc => ?_)
    | refine w_neqN rfl rfl (fun hc => ?_) (fun hc => ?_)
    | refine w_lss rfl rfl (fun hc => ?_) (fun hc => ?_)
    | refine w_leq rfl rfl (fun hc => ?_) (fun hc => ?_)
    | refine w_gtr rfl rfl (fun hc => ?_) (fun hc => ?_)
    | refine w_geq rfl rfl (fun hc => ?_) (fun hc => ?_)
    | refine w_eql rfl rfl (fun hc => ?_) (fun hc => ?_)
    | refine w_neq rfl rfl (fun hc => ?_) (fun hc => ?_)
    | refine w_addN rfl rfl (by omega) ?_
    | refine w_opk rfl rfl ?_
    | refine w_cond_t rfl ?_
    | refine w_cond_f rfl ?_
    | refine w_skip ?_
    | refine w_exit rfl ?_
    | refine w_ret ?_
    | refine w_rt rfl ?_)
  refine w_count (fun j vs h => h0 = h ∧ ∃ a b c d, vs = [s, .int .u32 0, .int .i64 (.ofNat j), .int .i64 (.ofNat l.length), a, s, .int .u32 (crcTo (l.take j)), b, c, d]) l.length ⟨rfl, _, _, _, _, rfl⟩ ?_
  rintro j vs h hj ⟨rfl, a, b, c, d, rfl⟩
  repeat' (first
    | refine w_seq ?_
    | refine w_reg ?_
    | refine w_end (by simp only [outsV, nth, setV, List.take_succ_cons, List.take_zero, List.length_cons, List.length_nil, Nat.zero_add, Nat.reduceAdd] <;> rfl) ?_
    | refine w_off rfl ?_
    | refine w_rf rfl (by assumption) (by rfl) (by rfl) (by rfl) ?_
    | refine w_rfg rfl rfl (by assumption) (by rfl) (by rfl) (by rfl) (by rfl) ?_
    | refine w_on rfl ?_
    | refine w_len rfl (by assumption) ?_
    | refine w_lssN rfl rfl (fun hc => ?_) (fun hc => ?_)
    | refine w_leqN rfl rfl (fun hc => ?_) (fun hc => ?_)
    | refine w_gtrN rfl rfl (fun hc => ?_) (fun hc => ?_)
    | refine w_geqN rfl rfl (fun hc => ?_) (fun hc => ?_)
    | refine w_eqlN rfl rfl (fun hc => ?_) (fun hc => ?_)
    | refine w_neqN rfl rfl (fun hc => ?_) (fun hc => ?_)
    | refine w_lss rfl rfl (fun hc => ?_) (fun hc => ?_)
    | refine w_leq rfl rfl (fun hc => ?_) (fun hc => ?_)
    | refine w_gtr rfl rfl (fun hc => ?_) (fun hc => ?_)
    | refine w_geq rfl rfl (fun hc => ?_) (fun hc => ?_)
    | refine w_eql rfl rfl (fun hc => ?_) (fun hc => ?_)
    | refine w_neq rfl rfl (fun hc => ?_) (fun hc => ?_)
    | refine w_addN rfl rfl (by omega) ?_
    | refine w_opk rfl rfl ?_
    | refine w_cond_t rfl ?_
    | refine w_cond_f rfl ?_
    | refine w_skip ?_
    | refine w_exit rfl ?_
    | refine w_ret ?_
    | refine w_rt rfl ?_)
  · refine w_block ?_
    repeat' (first
      | refine w_seq ?_
      | refine w_reg ?_
      | refine w_end (by simp only [outsV, nth, setV, List.take_succ_cons, List.take_zero, List.length_cons, List.length_nil, Nat.zero_add, Nat.reduceAdd] <;> rfl) ?_
      | refine w_off rfl ?_
      | refine w_rf rfl (by assumption) (by rfl) (by rfl) (by rfl) ?_
      | refine w_rfg rfl rfl (by assumption) (by rfl) (by rfl) (by rfl) (by rfl) ?_
      | refine w_on rfl ?_
      | refine w_len rfl (by assumption) ?_
      | refine w_lssN rfl rfl (fun hc => ?_) (fun hc => ?_)
      | refine w_leqN rfl rfl (fun hc => ?_) (fun hc => ?_)
      | refine w_gtrN rfl rfl (fun hc => ?_) (fun hc => ?_)
      | refine w_geqN rfl rfl (fun hc => ?_) (fun hc => ?_)
      | refine w_eqlN rfl rfl (fun hc => ?_) (fun hc => ?_)
      | refine w_neqN rfl rfl (fun hc => ?_) (fun hc => ?_)
      | refine w_lss rfl rfl (fun hc => ?_) (fun hc => ?_)
      | refine w_leq rfl rfl (fun hc => ?_) (fun hc => ?_)
      | refine w_gtr rfl rfl (fun hc => ?_) (fun hc => ?_)
      | refine w_geq rfl rfl (fun hc => ?_) (fun hc => ?_)
      | refine w_eql rfl rfl (fun hc => ?_) (fun hc => ?_)
      | refine w_neq rfl rfl (fun hc => ?_) (fun hc => ?_)
      | refine w_addN rfl rfl (by omega) ?_
      | refine w_opk rfl rfl ?_
      | refine w_cond_t rfl ?_
      | refine w_cond_f rfl ?_
      | refine w_skip ?_
      | refine w_exit rfl ?_
      | refine w_ret ?_
      | refine w_rt rfl ?_)
    have hj' : j < l.length := by assumption
    refine w_iadr rfl rfl hs hj' fun p hp => ?_
    obtain ⟨n, hn⟩ := hb _ (List.getElem_mem hj')
    rw [hn] at hp
    refine w_load1 rfl hp rfl ?_
    repeat' (first
      | refine w_seq ?_
      | refine w_reg ?_
      | refine w_end (by simp only [outsV, nth, setV, List.take_succ_cons, List.take_zero, List.length_cons, List.length_nil, Nat.zero_add, Nat.reduceAdd] <;> rfl) ?_
      | refine w_off rfl ?_
      | refine w_rf rfl (by assumption) (by rfl) (by rfl) (by rfl) ?_
      | refine w_rfg rfl rfl (by assumption) (by rfl) (by rfl) (by rfl) (by rfl) ?_
      | refine w_on rfl ?_
      | refine w_len rfl (by assumption) ?_
      | refine w_lssN rfl rfl (fun hc => ?_) (fun hc => ?_)
      | refine w_leqN rfl rfl (fun hc => ?_) (fun hc => ?_)
      | refine w_gtrN rfl rfl (fun hc => ?_) (fun hc => ?_)
      | refine w_geqN rfl rfl (fun hc => ?_) (fun hc => ?_)
      | refine w_eqlN rfl rfl (fun hc => ?_) (fun hc => ?_)
      | refine w_neqN rfl rfl (fun hc => ?_) (fun hc => ?_)
      | refine w_lss rfl rfl (fun hc => ?_) (fun hc => ?_)
      | refine w_leq rfl rfl (fun hc => ?_) (fun hc => ?_)
      | refine w_gtr rfl rfl (fun hc => ?_) (fun hc => ?_)
      | refine w_geq rfl rfl (fun hc => ?_) (fun hc => ?_)
      | refine w_eql rfl rfl (fun hc => ?_) (fun hc => ?_)
      | refine w_neq rfl rfl (fun hc => ?_) (fun hc => ?_)
      | refine w_addN rfl rfl (by omega) ?_
      | refine w_opk rfl rfl ?_
      | refine w_cond_t rfl ?_
      | refine w_cond_f rfl ?_
      | refine w_skip ?_
      | refine w_exit rfl ?_
      | refine w_ret ?_
      | refine w_rt rfl ?_)
    refine w_count (fun k vs h => h0 = h ∧ ∃ a d, vs = [s, .int .u32 0, .int .i64 (.ofNat j), .int .i64 (.ofNat l.length), a, s, .int .u32 (crcN k (intOf (binV .xor .plain (.int .u32 (crcTo (l.take j))) (.int .u32 (IntKind.u32.wrap n))))), .int .u8 n, .int .i64 (.ofNat k), d]) 8 ⟨rfl, _, _, rfl⟩ ?_
    rintro k vs h hk ⟨rfl, a, d, rfl⟩
    repeat' (first
      | refine w_seq ?_
      | refine w_reg ?_
      | refine w_end (by simp only [outsV, nth, setV, List.take_succ_cons, List.take_zero, List.length_cons, List.length_nil, Nat.zero_add, Nat.reduceAdd] <;> rfl) ?_
      | refine w_off rfl ?_
      | refine w_rf rfl (by assumption) (by rfl) (by rfl) (by rfl) ?_
      | refine w_rfg rfl rfl (by assumption) (by rfl) (by rfl) (by rfl) (by rfl) ?_
      | refine w_on rfl ?_
      | refine w_len rfl (by assumption) ?_
      | refine w_lssN rfl rfl (fun hc => ?_) (fun hc => ?_)
      | refine w_leqN rfl rfl (fun hc => ?_) (fun hc => ?_)
      | refine w_gtrN rfl rfl (fun hc => ?_) (fun hc => ?_)
      | refine w_geqN rfl rfl (fun hc => ?_) (fun hc => ?_)
      | refine w_eqlN rfl rfl (fun hc => ?_) (fun hc => ?_)
      | refine w_neqN rfl rfl (fun hc => ?_) (fun hc => ?_)
      | refine w_lss rfl rfl (fun hc => ?_) (fun hc => ?_)
      | refine w_leq rfl rfl (fun hc => ?_) (fun hc => ?_)
      | refine w_gtr rfl rfl (fun hc => ?_) (fun hc => ?_)
      | refine w_geq rfl rfl (fun hc => ?_) (fun hc => ?_)
      | refine w_eql rfl rfl (fun hc => ?_) (fun hc => ?_)
      | refine w_neq rfl rfl (fun hc => ?_) (fun hc => ?_)
      | refine w_addN rfl rfl (by omega) ?_
      | refine w_opk rfl rfl ?_
      | refine w_cond_t rfl ?_
      | refine w_cond_f rfl ?_
      | refine w_skip ?_
      | refine w_exit rfl ?_
      | refine w_ret ?_
      | refine w_rt rfl ?_)
    · refine w_block ?_
      repeat' (first
        | refine w_seq ?_
        | refine w_reg ?_
        | refine w_end (by simp only [outsV, nth, setV, List.take_succ_cons, List.take_zero, List.length_cons, List.length_nil, Nat.zero_add, Nat.reduceAdd] <;> rfl) ?_
        | refine w_off rfl ?_
        | refine w_rf rfl (by assumption) (by rfl) (by rfl) (by rfl) ?_
        | refine w_rfg rfl rfl (by assumption) (by rfl) (by rfl) (by rfl) (by rfl) ?_
        | refine w_on rfl ?_
        | refine w_len rfl (by assumption) ?_
        | refine w_lssN rfl rfl (fun hc => ?_) (fun hc => ?_)
        | refine w_leqN rfl rfl (fun hc => ?_) (fun hc => ?_)
        | refine w_gtrN rfl rfl (fun hc => ?_) (fun hc => ?_)
        | refine w_geqN rfl rfl (fun hc => ?_) (fun hc => ?_)
        | refine w_eqlN rfl rfl (fun hc => ?_) (fun hc => ?_)
        | refine w_neqN rfl rfl (fun hc => ?_) (fun hc => ?_)
        | refine w_lss rfl rfl (fun hc => ?_) (fun hc => ?_)
        | refine w_leq rfl rfl (fun hc => ?_) (fun hc => ?_)
        | refine w_gtr rfl rfl (fun hc => ?_) (fun hc => ?_)
        | refine w_geq rfl rfl (fun hc => ?_) (fun hc => ?_)
        | refine w_eql rfl rfl (fun hc => ?_) (fun hc => ?_)
        | refine w_neq rfl rfl (fun hc => ?_) (fun hc => ?_)
        | refine w_addN rfl rfl (by omega) ?_
        | refine w_opk rfl rfl ?_
        | refine w_cond_t rfl ?_
        | refine w_cond_f rfl ?_
        | refine w_skip ?_
        | refine w_exit rfl ?_
        | refine w_ret ?_
        | refine w_rt rfl ?_)
      exact ⟨hc, rfl, _, _, rfl⟩
    · have hk8 : k = 8 := by omega
      subst hk8
      have hx : crcTo (l.take (j + 1)) = crcN 8 (intOf (binV .xor .plain (.int .u32 (crcTo (l.take j))) (.int .u32 (IntKind.u32.wrap n)))) := by
        rw [crcTo_step hj', crcByte, hn]
        rfl
      rw [hx]
      exact ⟨hj', rfl, _, _, _, _, rfl⟩
  · have hjl : j = l.length := by omega
    subst hjl
    refine ⟨?_, rfl⟩
    rw [List.take_length]
    rfl
end AmT
