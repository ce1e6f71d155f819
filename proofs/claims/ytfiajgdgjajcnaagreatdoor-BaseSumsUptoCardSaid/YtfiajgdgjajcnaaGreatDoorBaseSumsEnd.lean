/-
  BaseSums' run, over any table of tokens. Conditions: the arguments are plain data, of bulk at most 1048576.
-/
import Derived.Test.YtfiajgdgjajcnaaGreatDoorBaseSumsRun
import Derived.Test.YtfiajgdgjajcnaaGreatDoorSumMem
import Derived.Test.YtfiajgdgjajcnaaGreatDoorW12
import Derived.Test.YtfiajgdgjajcnaaGreatDoorTy
import Derived.Test.YtfiajgdgjajcnaaGreatDoorCallsOf
namespace AmT
open Go Am Go.Proofs
set_option maxRecDepth 100000
set_option maxHeartbeats 2000000
def OS : CallF := memoO [⟨21, [], .bool true⟩, ⟨15, [.str textSums], .agg (modC modSums)⟩, ⟨32, [.agg (modC modSums)], .int .i64 (.ofNat 0)⟩]
theorem OS_ok {t : Nat → Option V} (ht : FlatT t) : CallOk (CC t) OS := memoO_ok fun m hm => by
  simp only [List.mem_cons, List.not_mem_nil, or_false] at hm
  rcases hm with rfl | rfl | rfl
  · exact mAwake12 ht
  · exact mModSums ht
  · exact mCkSums ht
theorem OS_text : TextOk OS textSums (modC modSums) modSums :=
  ⟨modSums_ok, modC_ok (by decide), fun {h} => w_known (v := .agg (modC modSums)) (h1 := h) rfl ⟨rfl, ExtX.refl _ _⟩, fun {h} => w_known (v := .int .i64 (.ofNat 0)) (h1 := h) rfl ⟨rfl, ExtX.refl _ _⟩⟩
theorem OS_on : OffOn OS := by repeat' first | (intro _ _; exact rfl) | constructor
theorem OS_ac : OffAc OS := by repeat' first | (intro _ _; exact rfl) | constructor
theorem OS_tx : OffTx OS := by repeat' first | (intro _ _; exact rfl) | constructor
theorem OS_rg : OffRg OS := by repeat' first | (intro _ _; exact rfl) | constructor
theorem OS_bg : OffBg OS := by repeat' first | (intro _ _; exact rfl) | constructor
theorem OS_cp : OffCopied OS := by repeat' first | (intro _ _; exact rfl) | constructor
theorem OS_wv : OffWV OS := by repeat' first | (intro _ _; exact rfl) | constructor
theorem OS_law : OffSums OS := ⟨⟨⟨OS_on, OS_ac, OS_tx, fun _ _ => rfl, fun _ _ => rfl⟩, OS_cp, fun _ _ => rfl⟩, OS_rg, OS_bg, OS_wv, fun _ _ => rfl, fun {h} => w_known (v := .bool true) (h1 := h) rfl ⟨rfl, ExtX.refl _ _⟩⟩
theorem baseSums_run {t : Nat → Option V} (ht : FlatT t) (c0 : V) (a1 : Int) (w0 : ∃ n, TV n 22 [c0]) (w1 : (Lit.int .i64 a1).wf = true) (hb : bulkL [c0] ≤ 1048576) :
    ∃ H', CallsTo (CC t) 3 [c0, .int .i64 a1] Heap.empty (.bool true) H' := by
  obtain ⟨n0, h0⟩ := w0
  obtain ⟨v, es, m1, hv, _, rfl, he, hbe, hs⟩ := ty_slice Tryz.underlying22 h0
  simp only [List.cons.injEq, and_true] at hv; subst hv
  have w64 : ∀ {x : Int}, (Lit.int .i64 x).wf = true → Am.i64 x := fun {x} w => by
    simp only [Lit.wf, Bool.and_eq_true, decide_eq_true_eq] at w
    have w1 : (-9223372036854775808 : Int) ≤ x := w.1
    have w2 : x ≤ (9223372036854775807 : Int) := w.2
    exact ⟨w1, w2⟩
  have hns : ∀ c ∈ es, ∃ n : Int, c = intC1 n ∧ Am.i64 n := fun c hc => by
    obtain ⟨i, rfl, w⟩ := ty_int Tryz.underlying3 (he c hc)
    exact ⟨i, rfl, w64 w⟩
  have hl : ∀ c ∈ es, c.length = 1 ∧ allOne c = true := fun c hc => by
    obtain ⟨i, rfl, _⟩ := hns c hc
    exact ⟨rfl, rfl⟩
  have hxs : ∃ xs : List Int, es = xs.map intC1 ∧ ∀ x ∈ xs, Am.i64 x := by
    clear he hbe hs hl hb h0
    induction es with
    | nil => exact ⟨[], rfl, by simp⟩
    | cons c es ih =>
      obtain ⟨i, rfl, w⟩ := hns c (List.mem_cons_self ..)
      obtain ⟨xs, rfl, h⟩ := ih fun x hx => hns x (List.mem_cons_of_mem _ hx)
      exact ⟨i :: xs, rfl, fun x hx => by
        rcases List.mem_cons.1 hx with rfl | hx
        · exact w
        · exact h x hx⟩
  have hn := sl_len hl (by decide) hbe
  obtain ⟨xs, rfl, hx⟩ := hxs
  rw [List.length_map] at hn
  exact calls_of ht (OS_ok ht) (baseSums_ok OS_law (fun _ _ => rfl) OS_text (fun H => sl_rs hs hl H) hx (by omega) (w64 w1))
end AmT
