/-
  Bytes as the rows read them. Conditions: none.
-/
import Derived.Test.YtclkhkphpkdnaaaGreatDoorEnc
import Derived.Test.YtclkhkphpkdnaaaGreatDoorTy
namespace AmT
open Go Am Go.Proofs
set_option maxRecDepth 100000
set_option linter.unusedSimpArgs false
set_option linter.unusedVariables false
variable {n : Nat} {cs : List V}

theorem ty_bytes (h : TV n 25 cs) (hb : bulkL cs ≤ 1048576) (H : Heap) : ∃ v bs, cs = [v] ∧ RdB H v bs := by
  obtain ⟨v, es, m, rfl, _, rfl, he, hbe, hs⟩ := ty_slice Tryz.underlying25 h
  have h1 : ∀ c ∈ es, ∃ a : Nat, c = byteC a ∧ a < 256 := fun c hc => by
    obtain ⟨i, rfl, w⟩ := ty_int Tryz.underlying5 (he c hc)
    simp only [Lit.wf, Bool.and_eq_true, decide_eq_true_eq] at w
    have w1 : (0 : Int) ≤ i := w.1
    have w2 : i ≤ 255 := w.2
    refine ⟨i.toNat, ?_, by omega⟩
    have e : Int.ofNat i.toNat = i := by show ((i.toNat : Nat) : Int) = i; omega
    simp only [byteC, e]
  obtain ⟨l, hl⟩ := all2_ex h1
  have e1 := all2_map (hl.mono fun _ _ _ _ k => k.1)
  have hl1 : ∀ c ∈ es, c.length = 1 ∧ allOne c = true := fun c hc => by
    obtain ⟨a, rfl, _⟩ := h1 c hc
    exact ⟨rfl, rfl⟩
  have h3 : es.length ≤ bulkL (es.map .agg) := bulk_count fun c hc => ⟨(hl1 c hc).2, by rw [(hl1 c hc).1]; exact Nat.le_refl _⟩
  refine ⟨v, l, rfl, ?_, fun x hx => ?_, ?_⟩
  · rw [← e1]
    exact sl_rs hs hl1 H
  · obtain ⟨c, _, k⟩ := all2_mem hl hx
    exact k.2
  · have := hl.1
    omega
end AmT
