/-
  profile.Add at any two profiles: what it tells, function by function. Conditions: they are profiles, by their cells.
-/
import Derived.Test.YtclkhkphpkdnaaaGreatDoorClone
namespace AmT
open Go Am
set_option maxRecDepth 100000
set_option maxHeartbeats 4000000
set_option linter.unusedSimpArgs false
set_option linter.unusedVariables false
variable {O : CallF}

/-- What was seen of a function: how often it was begun, and of each instruction two kinds' bits. -/
abbrev SeenT := Int × List (Int × Int)
def topC (t : Int × Int) : List V := [.int .u8 t.1, .int .u8 t.2]
def SeenR (h : Heap) (x : List V) (s : SeenT) : Prop := ∃ tv, x = [.int .i64 s.1, tv] ∧ RS h 2 tv (s.2.map topC) ∧ s.2.length ≤ 2097152
def ProfR (h : Heap) (v : V) (P : List SeenT) : Prop := ∃ l, RS h 2 v l ∧ l.length = P.length ∧ P.length ≤ 2097152 ∧ ∀ (i : Nat) (x : List V) (s : SeenT), l[i]? = some x → P[i]? = some s → SeenR h x s

theorem SeenR.ext {h h' : Heap} (hE : Ext h h') {x : List V} {s : SeenT} (k : SeenR h x s) : SeenR h' x s := by
  obtain ⟨tv, e, hr, hl⟩ := k
  exact ⟨tv, e, hr.ext0 hE, hl⟩
theorem ProfR.ext {h h' : Heap} (hE : Ext h h') {v : V} {P : List SeenT} (k : ProfR h v P) : ProfR h' v P := by
  obtain ⟨l, h1, h2, h3, h4⟩ := k
  exact ⟨l, h1.ext0 hE, h2, h3, fun i x s hx hs => (h4 i x s hx hs).ext hE⟩

/-- A profile in objects from a number on. -/
def ProfN (m : Nat) (h : Heap) (v : V) (P : List SeenT) : Prop := ∃ l, RS h 2 v l ∧ l.length = P.length ∧ P.length ≤ 2097152 ∧ (∀ id ∈ slIds v, m ≤ id) ∧
  ∀ (i : Nat) (x : List V) (s : SeenT), l[i]? = some x → P[i]? = some s → ∃ tv, x = [.int .i64 s.1, tv] ∧ RS h 2 tv (s.2.map topC) ∧ s.2.length ≤ 2097152 ∧ ∀ id ∈ slIds tv, m ≤ id
theorem ProfN.prof {m : Nat} {h : Heap} {v : V} {P : List SeenT} (k : ProfN m h v P) : ProfR h v P := by
  obtain ⟨l, h1, h2, h3, _, h4⟩ := k
  refine ⟨l, h1, h2, h3, fun i x s hx hs => ?_⟩
  obtain ⟨tv, e, r, b, _⟩ := h4 i x s hx hs
  exact ⟨tv, e, r, b⟩
theorem ProfN.ext {S : List Nat} {m : Nat} {h h' : Heap} (hE : ExtX S h h') {v : V} {P : List SeenT} (k : ProfN m h v P) (hS : ∀ id ∈ S, id < m) : ProfN m h' v P := by
  obtain ⟨l, h1, h2, h3, h0, h4⟩ := k
  refine ⟨l, h1.ext hE (fun id off len ver e f hv => fun hm => ?_), h2, h3, h0, fun i x s hx hs => ?_⟩
  · have := h0 id (by rw [hv]; simp [slIds]); have := hS id hm; omega
  · obtain ⟨tv, e, r, b, hn⟩ := h4 i x s hx hs
    refine ⟨tv, e, r.ext hE (fun id off len ver e f hv => fun hm => ?_), b, hn⟩
    have := hn id (by rw [hv]; simp [slIds]); have := hS id hm; omega
theorem ProfN.ext0 {m : Nat} {h h' : Heap} (hE : Ext h h') {v : V} {P : List SeenT} (k : ProfN m h v P) : ProfN m h' v P := k.ext hE (by simp)

def or8 (a b : Int) : Int := IntKind.u8.wrap (BitVec.ofInt 8 a ||| BitVec.ofInt 8 b).toNat
def orTop (t u : Int × Int) : Int × Int := (or8 t.1 u.1, or8 t.2 u.2)
/-- The first ones of a list, with those of another one. -/
def orTo : Nat → List (Int × Int) → List (Int × Int) → List (Int × Int)
  | k + 1, a :: A, b :: B => orTop a b :: orTo k A B
  | _, A, _ => A
def orTops (A B : List (Int × Int)) : List (Int × Int) := if B.length ≤ A.length then orTo B.length A B else orTo A.length B A
def addS (s t : SeenT) : SeenT := (bnd (wrapK .i64 (Int.add (bnd s.1) (bnd t.1))), orTops s.2 t.2)
def addL : List SeenT → List SeenT → List SeenT
  | [], _ => []
  | s :: l, [] => (bnd s.1, s.2) :: addL l []
  | s :: l, t :: r => addS s t :: addL l r
/-- What was seen by two. -/
def addP (P Q : List SeenT) : List SeenT := if Q.length ≤ P.length then addL P Q else addL Q P

theorem orTo_len : ∀ (k : Nat) (A B : List (Int × Int)), (orTo k A B).length = A.length
  | 0, A, B => by cases A <;> cases B <;> rfl
  | k + 1, [], B => rfl
  | k + 1, a :: A, [] => rfl
  | k + 1, a :: A, b :: B => by simp [orTo, orTo_len k A B]

theorem orTo_zero (A B : List (Int × Int)) : orTo 0 A B = A := by cases A <;> cases B <;> rfl

theorem orTo_get : ∀ (k j : Nat) (A B : List (Int × Int)), (orTo k A B)[j]? = if j < k then (match A[j]?, B[j]? with | some a, some b => some (orTop a b) | x, _ => x) else A[j]?
  | 0, j, A, B => by simp [orTo_zero]
  | k + 1, j, [], B => by simp [orTo]
  | k + 1, j, a :: A, [] => by
    simp only [orTo]
    split
    · cases (a :: A)[j]? <;> rfl
    · rfl
  | k + 1, 0, a :: A, b :: B => by simp [orTo]
  | k + 1, j + 1, a :: A, b :: B => by
    simp only [orTo, List.getElem?_cons_succ, Nat.add_lt_add_iff_right]
    exact orTo_get k j A B

theorem orTo_step {k : Nat} {A B : List (Int × Int)} {a b : Int × Int} (ha : A[k]? = some a) (hb : B[k]? = some b) : (orTo k A B).set k (orTop a b) = orTo (k + 1) A B := by
  apply List.ext_getElem?
  intro j
  rw [List.getElem?_set, orTo_get, orTo_get, orTo_len]
  have hk : k < A.length := (List.getElem?_eq_some_iff.1 ha).1
  by_cases hj : k = j
  · subst hj
    have e : A[k] = a := (List.getElem?_eq_some_iff.1 ha).2
    simp [hk, ha, hb, e]
  · rw [if_neg hj]
    by_cases h1 : j < k
    · rw [if_pos h1, if_pos (by omega)]
    · rw [if_neg h1, if_neg (by omega)]

theorem addL_len : ∀ (P Q : List SeenT), (addL P Q).length = P.length
  | [], _ => rfl
  | s :: l, [] => by simp [addL, addL_len l []]
  | s :: l, t :: r => by simp [addL, addL_len l r]

theorem addL_get : ∀ (P Q : List SeenT) (i : Nat), (addL P Q)[i]? = match P[i]?, Q[i]? with | some s, some t => some (addS s t) | some s, none => some (bnd s.1, s.2) | none, _ => none
  | [], Q, i => by simp [addL]
  | s :: l, [], 0 => by simp [addL]
  | s :: l, [], i + 1 => by
    simp only [addL, List.getElem?_cons_succ, addL_get l [] i]
    simp
  | s :: l, t :: r, 0 => by simp [addL]
  | s :: l, t :: r, i + 1 => by
    simp only [addL, List.getElem?_cons_succ]
    exact addL_get l r i

structure OffAdd (O : CallF) : Prop where
  c1 : ∀ a h, O 61 a h = none
  c2 : ∀ a h, O 23 a h = none
  l1 : ∀ a h, O 21 a h = none
  l2 : ∀ a h, O 24 a h = none
  b : ∀ a h, O 22 a h = none
  ad : ∀ a h, O 7 a h = none

/-- What is done of the longer list: the functions so far, their lists in objects below a number. -/
def Done (h0 h : Heap) (x : V) (l : List (List V)) (R : List SeenT) (i m : Nat) : Prop := ∀ j, j < i → ∃ tv s, R[j]? = some s ∧ l[j]? = some [.int .i64 s.1, tv] ∧ RS h 2 tv (s.2.map topC) ∧ s.2.length ≤ 2097152 ∧ ∀ id ∈ slIds tv, h0.n ≤ id ∧ id ∉ slIds x ∧ id < m

theorem Done.ext {S : List Nat} {h0 h h' : Heap} {x : V} {l : List (List V)} {R : List SeenT} {i m : Nat} (k : Done h0 h x l R i m) (hE : ExtX S h h') (hS : ∀ id, id ∈ S → id ∈ slIds x ∨ m ≤ id) : Done h0 h' x l R i m := by
  intro j hj
  obtain ⟨tv, s, h1, h2, h3, h4, h5⟩ := k j hj
  refine ⟨tv, s, h1, h2, h3.ext hE (fun id off len ver e f hv => fun hm => ?_), h4, h5⟩
  have hid : id ∈ slIds tv := by rw [hv]; simp [slIds]
  rcases hS id hm with e | e
  · exact (h5 id hid).2.1 e
  · have := (h5 id hid).2.2; omega

theorem Done.up {h0 h : Heap} {x : V} {l : List (List V)} {R : List SeenT} {i m : Nat} (k : Done h0 h x l R i m) : Done h0 h x l R i h.n := by
  intro j hj
  obtain ⟨tv, s, h1, h2, h3, h4, h5⟩ := k j hj
  exact ⟨tv, s, h1, h2, h3, h4, fun id hid => ⟨(h5 id hid).1, (h5 id hid).2.1, h3.lt id hid⟩⟩

theorem Done.set {h0 h : Heap} {x : V} {l : List (List V)} {R : List SeenT} {i m : Nat} {c : List V} (k : Done h0 h x l R i m) : Done h0 h x (l.set i c) R i m := by
  intro j hj
  obtain ⟨tv, s, h1, h2, h3⟩ := k j hj
  exact ⟨tv, s, h1, by rw [List.getElem?_set_ne (by omega)]; exact h2, h3⟩

theorem Done.succ {h0 h : Heap} {x : V} {l : List (List V)} {R : List SeenT} {i m : Nat} {tv : V} {s : SeenT} (k : Done h0 h x l R i m) (h1 : R[i]? = some s) (h2 : l[i]? = some [.int .i64 s.1, tv]) (h3 : RS h 2 tv (s.2.map topC)) (h4 : s.2.length ≤ 2097152) (h5 : ∀ id ∈ slIds tv, h0.n ≤ id ∧ id ∉ slIds x) : Done h0 h x l R (i + 1) h.n := by
  intro j hj
  by_cases e : j = i
  · subst e; exact ⟨tv, s, h1, h2, h3, h4, fun id hid => ⟨(h5 id hid).1, (h5 id hid).2, h3.lt id hid⟩⟩
  · exact k.up j (by omega)

theorem add_ok (hO : OffAdd O) {h0 : Heap} {a b : V} {P Q : List SeenT} (ha : ProfR h0 a P) (hb : ProfR h0 b Q) :
    WPc tab.get O 7 [.agg [a], .agg [b]] h0 (fun w h' => (∃ v, w = .agg [v] ∧ ProfN h0.n h' v (addP P Q)) ∧ Ext h0 h') := by
  refine w_fn' (hO.ad _ _) rfl rfl (by simp only [c7, initV, nth] <;> rfl) ?_
  obtain ⟨la, ra, ea, ba, sa⟩ := ha
  obtain ⟨lb, rb, eb, bb, sb⟩ := hb
  have hoa : allOne [a] = true := by simp only [allOne, ra.one]
  have hob : allOne [b] = true := by simp only [allOne, rb.one]
  refine w_seq (w_reg (w_box rfl rfl hoa fun iA h1 hA hiA hE1 => ?_))
  refine w_box rfl rfl hob fun iB h2 hB hiB hE2 => ?_
  refine w_alloc fun iR h3 hR hiR hE3 => ?_
  have E3 := (hE1.trans hE2).trans hE3
  replace hA := (hA.ext0 hE2).ext0 hE3
  replace hB := hB.ext0 hE3
  have hRl := hR.1
  have hR0 : h0.n ≤ iR := by have := (hE1.trans hE2).1; omega
  repeat' (first | refine w_seq ?_ | refine w_reg ?_ | refine w_end (by simp only [outsV, nth, setV, List.take_succ_cons, List.take_zero, List.length_cons, List.length_nil, Nat.zero_add, Nat.reduceAdd] <;> rfl) ?_ | refine w_rf rfl (by assumption) (by rfl) (by rfl) (by rfl) ?_)
  refine w_call rfl ((longerSeen_ok hO.c1 hO.l1 (ra.ext0 E3) (rb.ext0 E3) (by omega) (by omega)).mono fun w h4 ⟨⟨x, y, lx, ly, hw, hcase, hx, hxn⟩, hE4⟩ => ?_)
  subst hw
  have hR3 := hR
  have hx4 := hE4.2
  replace hR := hR.ext0 hE4
  have E4 := E3.trans hE4
  -- the longer one, and the other one
  obtain ⟨PL, QL, hPQ, elx, ely, sx, sy, ry, bPL, bQL, hle⟩ : ∃ PL QL : List SeenT, addP P Q = addL PL QL ∧ lx.length = PL.length ∧ ly.length = QL.length ∧ (∀ (i : Nat) (x : List V) (s : SeenT), lx[i]? = some x → PL[i]? = some s → SeenR h0 x s) ∧ (∀ (i : Nat) (x : List V) (s : SeenT), ly[i]? = some x → QL[i]? = some s → SeenR h0 x s) ∧ RS h0 2 y ly ∧ PL.length ≤ 2097152 ∧ QL.length ≤ 2097152 ∧ QL.length ≤ PL.length := by
    rcases hcase with ⟨h1, rfl, rfl, rfl⟩ | ⟨h1, rfl, rfl, rfl⟩
    · exact ⟨P, Q, by unfold addP; rw [if_pos (by omega)], ea, eb, sa, sb, rb, ba, bb, by omega⟩
    · exact ⟨Q, P, by unfold addP; rw [if_neg (by omega)], eb, ea, sb, sa, ra, bb, ba, by omega⟩
  have hxl := hx.rs.lt
  have hyl := ry.lt
  have hRx : iR ∉ slIds x := fun e => by have := hxn iR e; omega
  have E3n := E3.1
  have E4n := hE4.1
  clear hcase hE1 hE2 hE3 hE4 hA hB sa sb ra rb
  have hx1 := hx.rs
  repeat' (first | refine w_seq ?_ | refine w_reg ?_ | refine w_end (by simp only [outsV, nth, setV, List.take_succ_cons, List.take_zero, List.length_cons, List.length_nil, Nat.zero_add, Nat.reduceAdd] <;> rfl) ?_ | refine w_len rfl (by assumption) ?_ | refine w_opk rfl rfl ?_)
  refine WPx.mono (N := fun vs h => ∃ l, (∃ c6 c8 c9 c10 c12 c13 c14 c15 c16 c17 c18 c19 c20, vs = [.agg [a], .agg [b], .ptr iR 0 0 1, .ptr iA 0 0 1, .ptr iB 0 0 1, x, c6, .int .i64 (.ofNat lx.length), c8, c9, c10, y, c12, c13, c14, c15, c16, c17, c18, c19, c20]) ∧ Ow h 2 x l ∧ l.length = PL.length ∧ Ext h3 h ∧ Own h iR [.nils] ∧ Done h3 h x l (addL PL QL) PL.length h.n)
    (w_count (fun i vs h => ∃ l, (∃ c8 c9 c10 c12 c13 c14 c15 c16 c17 c18 c19 c20, vs = [.agg [a], .agg [b], .ptr iR 0 0 1, .ptr iA 0 0 1, .ptr iB 0 0 1, x, .int .i64 (.ofNat i), .int .i64 (.ofNat lx.length), c8, c9, c10, y, c12, c13, c14, c15, c16, c17, c18, c19, c20]) ∧ Ow h 2 x l ∧ l.length = PL.length ∧ Ext h3 h ∧ h4.n ≤ h.n ∧ Own h iR [.nils] ∧ Done h3 h x l (addL PL QL) i h.n ∧ ∀ j, i ≤ j → l[j]? = lx[j]?) PL.length
      ⟨lx, ⟨_, _, _, _, _, _, _, _, _, _, _, _, rfl⟩, hx, elx, ?_, Nat.le_refl _, hR, fun j hj => absurd hj (Nat.not_lt_zero _), fun _ _ => rfl⟩ ?_) ?_ (fun _ _ x => x)
  · exact ⟨E4n, fun j hj hn => by
      have := hx4 j hj hn
      exact this⟩
  · rintro i vs h hi ⟨l, ⟨c8, c9, c10, c12, c13, c14, c15, c16, c17, c18, c19, c20, rfl⟩, hx, hl, hE, hEn, hR, hD, hrest⟩
    have hE0 := E3.trans hE
    have ry0 := ry.ext0 hE0
    repeat' (first | refine w_seq ?_ | refine w_reg ?_ | refine w_end (by simp only [outsV, nth, setV, List.take_succ_cons, List.take_zero, List.length_cons, List.length_nil, Nat.zero_add, Nat.reduceAdd] <;> rfl) ?_ | refine w_lssN rfl rfl (fun hc => ?_) (fun hc => ?_) | refine w_cond_t rfl ?_ | refine w_cond_f rfl ?_ | refine w_skip ?_ | refine w_exit rfl ?_)
    · refine w_block ?_
      repeat' (first | refine w_seq ?_ | refine w_reg ?_ | refine w_end (by simp only [outsV, nth, setV, List.take_succ_cons, List.take_zero, List.length_cons, List.length_nil, Nat.zero_add, Nat.reduceAdd] <;> rfl) ?_ | refine w_opk rfl rfl ?_)
      have hil : i < l.length := by omega
      have hiP : i < PL.length := by omega
      obtain ⟨tv0, e0, r0, b0⟩ := sx i lx[i] PL[i] (List.getElem?_eq_getElem hc) (List.getElem?_eq_getElem hiP)
      have hli : l[i] = [.int .i64 PL[i].1, tv0] := by
        have h1 := hrest i (Nat.le_refl _)
        rw [List.getElem?_eq_getElem hil, List.getElem?_eq_getElem hc, e0] at h1
        simpa using h1
      have hPi : PL[i]? = some PL[i] := List.getElem?_eq_getElem hiP
      generalize hs : PL[i] = s at *
      refine w_iadrS rfl rfl hx.rs hil ?_
      repeat' (first | refine w_seq ?_ | refine w_reg ?_ | refine w_end (by simp only [outsV, nth, setV, List.take_succ_cons, List.take_zero, List.length_cons, List.length_nil, Nat.zero_add, Nat.reduceAdd] <;> rfl) ?_ | refine w_opk rfl rfl ?_)
      have hA := slot_at hx.rs hil
      rw [hli] at hA
      refine w_nilck rfl hA ?_
      refine w_fadr rfl hA rfl fun hA0 => ?_
      refine w_load1 rfl hA0 rfl ?_
      repeat' (first | refine w_opk rfl rfl ?_)
      refine w_nilck rfl hA ?_
      refine w_fadr rfl hA rfl fun hA1 => ?_
      refine w_load1 (c := []) rfl hA1 rfl ?_
      refine w_call rfl ((bound_ok hO.b).mono fun v h5 ⟨hv, hh⟩ => ?_)
      subst hv hh
      refine w_chk1 (c := []) rfl rfl hA1 (V.beq_refl _) ?_
      refine w_call rfl ((cloneTop_ok hO.c2 (r0.ext0 hE0) (by simp; omega)).mono fun tw h6 ⟨hw, hE6, hwn⟩ => ?_)
      have hxl5 := hx.rs.lt
      replace hx := hx.ext0 hE6
      replace hD := hD.ext hE6 (by simp)
      have hE6n := hE6.1
      have hwl := hw.rs.lt
      have hA6 := slot_at hx.rs hil
      rw [hli] at hA6
      refine w_nilck rfl hA6 ?_
      refine w_fadr rfl hA6 rfl fun _ => ?_
      refine w_storeS rfl rfl hx hil rfl (by decide) rfl fun h7 hx7 hE7 hn7 => ?_
      rw [hli] at hx7
      replace hx7 : Ow h7 2 x (l.set i [.int .i64 (bnd s.1), tv0]) := hx7
      have hil7 : i < (l.set i [.int .i64 (bnd s.1), tv0]).length := by simpa using hil
      have hA7 := slot_at hx7.rs hil7
      rw [List.getElem_set_self] at hA7
      refine w_nilck rfl hA7 ?_
      refine w_fadr rfl hA7 rfl fun _ => ?_
      refine w_storeS rfl rfl hx7 hil7 (by rw [V.cells1 hw.rs.one]; rfl) (by decide) (by rw [V.cells1 hw.rs.one]; simp only [allOne, hw.rs.one]) fun h8 hx8 hE8 hn8 => ?_
      rw [V.cells1 hw.rs.one, List.getElem_set_self, List.set_set] at hx8
      replace hx8 : Ow h8 2 x (l.set i [.int .i64 (bnd s.1), tw]) := hx8
      have hE78 := hE7.trans hE8
      have hwx : ∀ id ∈ slIds tw, id ∉ slIds x := fun id h1 h2 => by have := hwn id h1; have := hxl5 id h2; omega
      replace hw := hw.ext hE78 hwx
      replace hD := (hD.ext hE78 fun id hid => .inl hid).set (c := [.int .i64 (bnd s.1), tw])
      have hE8' : Ext h3 h8 := (hE.trans hE6).step hE78 fun jd hjd => .inr (hxn jd hjd)
      have hE08 := E3.trans hE8'
      have ry8 := ry.ext0 hE08
      have hil8 : i < (l.set i [.int .i64 (bnd s.1), tw]).length := by simpa using hil
      have hA8 := slot_at hx8.rs hil8
      rw [List.getElem_set_self] at hA8
      have hrest8 : ∀ j, i + 1 ≤ j → (l.set i [.int .i64 (bnd s.1), tw])[j]? = lx[j]? := fun j hj => by
        rw [List.getElem?_set_ne (by omega)]; exact hrest j (by omega)
      have hget := addL_get PL QL i
      rw [hPi] at hget
      have hbs : s.2.length ≤ 2097152 := b0
      clear hx hx7 hE7 hE8 hA hA0 hA1 hA6 hA7 hE6
      repeat' (first | refine w_seq ?_ | refine w_reg ?_ | refine w_end (by simp only [outsV, nth, setV, List.take_succ_cons, List.take_zero, List.length_cons, List.length_nil, Nat.zero_add, Nat.reduceAdd] <;> rfl) ?_ | refine w_len rfl (by assumption) ?_ | refine w_geqN rfl rfl (fun hc => ?_) (fun hc => ?_) | refine w_addN rfl rfl (by omega) ?_ | refine w_opk rfl rfl ?_ | refine w_cond_t rfl ?_ | refine w_cond_f rfl ?_ | refine w_skip ?_ | refine w_exit rfl ?_)
      · -- there is no other one
        have hQn : QL[i]? = none := List.getElem?_eq_none (by omega)
        rw [hQn] at hget
        exact ⟨by omega, _, ⟨_, _, _, _, _, _, _, _, _, _, _, _, rfl⟩, hx8, by simpa using hl, hE8', by omega, hR3.ext0 hE8', hD.succ hget (by simp [hil]) hw.rs hbs fun id hid => ⟨by have := hwn id hid; omega, hwx id hid⟩, hrest8⟩
      · have hiQ : i < QL.length := by omega
        obtain ⟨uv0, f0, u0, d0⟩ := sy i ly[i] QL[i] (List.getElem?_eq_getElem hc) (List.getElem?_eq_getElem hiQ)
        have hQi : QL[i]? = some QL[i] := List.getElem?_eq_getElem hiQ
        generalize ht : QL[i] = t at *
        rw [hQi] at hget
        have hB := slot_at ry8 hc
        rw [f0] at hB
        refine w_nilck rfl hA8 ?_
        refine w_fadr rfl hA8 rfl fun hA80 => ?_
        refine w_load1 rfl hA80 rfl ?_
        repeat' (first | refine w_opk rfl rfl ?_)
        refine w_iadrS rfl rfl ry8 hc ?_
        refine w_fadr rfl hB rfl fun hB0 => ?_
        refine w_load1 rfl hB0 rfl ?_
        refine w_call rfl ((bound_ok hO.b).mono fun v h9 ⟨hv, hh⟩ => ?_)
        subst hv hh
        refine w_chk1 rfl rfl hA80 (V.beq_refl _) ?_
        repeat' (first | refine w_opk rfl rfl ?_)
        refine w_call rfl ((bound_ok hO.b).mono fun v h9 ⟨hv, hh⟩ => ?_)
        subst hv hh
        refine w_nilck rfl hA8 ?_
        refine w_fadr rfl hA8 rfl fun _ => ?_
        refine w_storeS rfl rfl hx8 hil8 rfl (by decide) rfl fun h10 hx10 hE10 hn10 => ?_
        rw [List.getElem_set_self, List.set_set] at hx10
        replace hx10 : Ow h10 2 x (l.set i [.int .i64 (bnd (wrapK .i64 (Int.add (bnd s.1) (bnd t.1)))), tw]) := hx10
        generalize hcl : bnd (wrapK .i64 (Int.add (bnd s.1) (bnd t.1))) = cc at hx10
        have hw10 := hw.ext hE10 hwx
        have hD10 : Done h3 h10 x (l.set i [.int .i64 cc, tw]) (addL PL QL) i h10.n := by
          have := (hD.ext hE10 fun id hid => .inl hid).set (c := [.int .i64 cc, tw])
          rw [List.set_set] at this
          exact this.up
        have hE310 : Ext h3 h10 := hE8'.step hE10 fun jd hjd => .inr (hxn jd hjd)
        have hE010 := E3.trans hE310
        have ry10 := ry.ext0 hE010
        have hil10 : i < (l.set i [.int .i64 cc, tw]).length := by simpa using hil
        have hA10 := slot_at hx10.rs hil10
        rw [List.getElem_set_self] at hA10
        have hB10 := slot_at ry10 hc
        rw [f0] at hB10
        have hx10l := hx10.rs.lt
        have hw10l := hw10.rs.lt
        clear hA8 hA80 hB hB0 hx8 hw hD hE10 hE8' hE08 ry8
        repeat' (first | refine w_seq ?_ | refine w_reg ?_ | refine w_end (by simp only [outsV, nth, setV, List.take_succ_cons, List.take_zero, List.length_cons, List.length_nil, Nat.zero_add, Nat.reduceAdd] <;> rfl) ?_ | refine w_opk rfl rfl ?_)
        refine w_nilck rfl hA10 ?_
        refine w_fadr rfl hA10 rfl fun hA101 => ?_
        refine w_load1 (c := []) rfl hA101 rfl ?_
        repeat' (first | refine w_opk rfl rfl ?_)
        refine w_iadrS rfl rfl ry10 hc ?_
        refine w_fadr rfl hB10 rfl fun hB101 => ?_
        refine w_load1 (c := []) rfl hB101 rfl ?_
        refine w_call rfl ((longerTop_ok hO.c2 hO.l2 hw10.rs (u0.ext0 hE010) (by simp; omega) (by simp; omega)).mono fun v h11 ⟨⟨x', y', lx', ly', hv, hcase, hx', hx'n⟩, hE11⟩ => ?_)
        subst hv
        obtain ⟨A, B, hor, rfl, rfl, hy', hy'l, hBA, hAl⟩ : ∃ A B : List (Int × Int), orTops s.2 t.2 = orTo B.length A B ∧ lx' = A.map topC ∧ ly' = B.map topC ∧ RS h10 2 y' (B.map topC) ∧ (∀ id ∈ slIds y', id < h10.n) ∧ B.length ≤ A.length ∧ A.length ≤ 2097152 := by
          rcases hcase with ⟨h1, rfl, rfl, rfl⟩ | ⟨h1, rfl, rfl, rfl⟩
          · exact ⟨s.2, t.2, by unfold orTops; rw [if_pos (by simpa using h1)], rfl, rfl, u0.ext0 hE010, (u0.ext0 hE010).lt, by simpa using h1, hbs⟩
          · exact ⟨t.2, s.2, by unfold orTops; rw [if_neg (by simp at h1; omega)], rfl, rfl, hw10.rs, hw10l, by simp at h1; omega, d0⟩
        replace hx10 := hx10.ext0 hE11
        replace hD10 := hD10.ext hE11 (by simp)
        have hE311 := hE310.trans hE11
        have hy11 := hy'.ext0 hE11
        have hE11n := hE11.1
        clear hcase hA10 hA101 hB10 hB101 hw10
        repeat' (first | refine w_seq ?_ | refine w_reg ?_ | refine w_end (by simp only [outsV, nth, setV, List.take_succ_cons, List.take_zero, List.length_cons, List.length_nil, Nat.zero_add, Nat.reduceAdd] <;> rfl) ?_ | refine w_len rfl (by assumption) ?_ | refine w_opk rfl rfl ?_)
        have hBl : (B.map topC).length = B.length := by simp
        refine w_count (fun k vs h => (∃ c16 c19 c20, vs = [.agg [a], .agg [b], .ptr iR 0 0 1, .ptr iA 0 0 1, .ptr iB 0 0 1, x, .int .i64 (.ofNat i), .int .i64 (.ofNat lx.length), .bool true, .int .i64 (.ofNat i), slotP x i, y, .bool false, y', .int .i64 (.ofNat k), .int .i64 (.ofNat (B.map topC).length), c16, y', x', c19, c20]) ∧
          Ow h 2 x' ((orTo k A B).map topC) ∧ Ow h 2 x (l.set i [.int .i64 cc, tw]) ∧ Done h3 h x (l.set i [.int .i64 cc, tw]) (addL PL QL) i h10.n ∧ Ext h3 h ∧ h11.n ≤ h.n ∧ RS h 2 y' (B.map topC)) B.length
          ⟨⟨_, _, _, rfl⟩, by rw [orTo_zero]; exact hx', hx10, hD10, hE311, Nat.le_refl _, hy11⟩ ?_
        have hx'l := hx'.rs.lt
        clear hx' hx10 hD10 hE311 hy11
        rintro k vs h hk ⟨⟨c16, c19, c20, rfl⟩, hx', hx12, hD12, hE12, hn12, hy12⟩
        repeat' (first | refine w_seq ?_ | refine w_reg ?_ | refine w_end (by simp only [outsV, nth, setV, List.take_succ_cons, List.take_zero, List.length_cons, List.length_nil, Nat.zero_add, Nat.reduceAdd] <;> rfl) ?_ | refine w_lssN rfl rfl (fun hc => ?_) (fun hc => ?_) | refine w_opk rfl rfl ?_ | refine w_cond_t rfl ?_ | refine w_cond_f rfl ?_ | refine w_skip ?_ | refine w_exit rfl ?_)
        · refine w_block ?_
          repeat' (first | refine w_seq ?_ | refine w_reg ?_ | refine w_opk rfl rfl ?_)
          have hkB : k < B.length := by omega
          have hkB' : k < (B.map topC).length := by omega
          have hkA : k < A.length := by omega
          refine w_iadrS rfl rfl hy12 hkB' ?_
          have hU := slot_at hy12 hkB'
          rw [List.getElem_map] at hU
          refine w_loadA rfl hU rfl ?_
          refine w_alloc fun iv h13 hv13 hiv hE13 => ?_
          repeat' (first | refine w_opk rfl rfl ?_)
          refine w_store rfl rfl hv13 rfl rfl (by decide) (by simp) fun h14 hv14 hE14 _ => ?_
          replace hv14 : Own h14 iv [.int .u8 B[k].1, .int .u8 B[k].2] := hv14
          have hF : Ext h h14 := hE13.step hE14 fun jd hjd => by simp at hjd; exact .inr (by omega)
          replace hx' := hx'.ext0 hF
          replace hx12 := hx12.ext0 hF
          replace hD12 := hD12.ext hF (by simp)
          replace hE12 := hE12.trans hF
          replace hy12 := hy12.ext0 hF
          have hFn := hF.1
          have hivl := hv14.1
          have hkT : k < ((orTo k A B).map topC).length := by simp [orTo_len, hkA]
          have hTk : ((orTo k A B).map topC)[k] = [.int .u8 A[k].1, .int .u8 A[k].2] := by
            have h1 := orTo_get k k A B
            rw [if_neg (Nat.lt_irrefl k), List.getElem?_eq_getElem hkA, List.getElem?_eq_getElem (by rw [orTo_len]; exact hkA)] at h1
            rw [List.getElem_map, Option.some.inj h1]; rfl
          have hivx : iv ∉ slIds x' := fun e => by have := hx'l iv e; omega
          repeat' (first | refine w_seq ?_ | refine w_reg ?_ | refine w_end (by simp only [outsV, nth, setV, List.take_succ_cons, List.take_zero, List.length_cons, List.length_nil, Nat.zero_add, Nat.reduceAdd] <;> rfl) ?_ | refine w_opk rfl rfl ?_)
          -- the first kind
          refine w_iadrS rfl rfl hx'.rs hkT ?_
          have hT := slot_at hx'.rs hkT
          rw [hTk] at hT
          refine w_iadrAt rfl rfl hT rfl rfl fun hT0 => ?_
          refine w_load1 rfl hT0 rfl ?_
          repeat' (first | refine w_opk rfl rfl ?_)
          refine w_load1 rfl (hv14.at rfl) rfl ?_
          repeat' (first | refine w_opk rfl rfl ?_)
          refine w_iadrS rfl rfl hx'.rs hkT ?_
          refine w_iadrAt rfl rfl hT rfl rfl fun _ => ?_
          refine w_storeS rfl rfl hx' hkT rfl (by decide) rfl fun h15 hx15 hE15 hn15 => ?_
          rw [hTk] at hx15
          replace hx15 : Ow h15 2 x' (((orTo k A B).map topC).set k [.int .u8 (or8 A[k].1 B[k].1), .int .u8 A[k].2]) := hx15
          have hkT2 : k < (((orTo k A B).map topC).set k [.int .u8 (or8 A[k].1 B[k].1), .int .u8 A[k].2]).length := by simpa using hkT
          replace hv14 := hv14.ext hE15 hivx
          have hT2 := slot_at hx15.rs hkT2
          rw [List.getElem_set_self] at hT2
          repeat' (first | refine w_reg ?_ | refine w_end (by simp only [outsV, nth, setV, List.take_succ_cons, List.take_zero, List.length_cons, List.length_nil, Nat.zero_add, Nat.reduceAdd] <;> rfl) ?_ | refine w_opk rfl rfl ?_)
          -- the second kind
          refine w_iadrS rfl rfl hx15.rs hkT2 ?_
          refine w_iadrAt rfl rfl hT2 rfl rfl fun hT3 => ?_
          refine w_load1 (c := []) rfl hT3 rfl ?_
          repeat' (first | refine w_opk rfl rfl ?_)
          refine w_load1 (c := []) rfl ((hv14.at rfl).fadr (d := 1) (by simp)) rfl ?_
          repeat' (first | refine w_opk rfl rfl ?_)
          refine w_iadrS rfl rfl hx15.rs hkT2 ?_
          refine w_iadrAt rfl rfl hT2 rfl rfl fun _ => ?_
          refine w_storeS rfl rfl hx15 hkT2 rfl (by decide) rfl fun h16 hx16 hE16 hn16 => ?_
          rw [List.getElem_set_self, List.set_set] at hx16
          replace hx16 : Ow h16 2 x' (((orTo k A B).map topC).set k (topC (orTop A[k] B[k]))) := hx16
          rw [← List.map_set, orTo_step (List.getElem?_eq_getElem hkA) (List.getElem?_eq_getElem hkB)] at hx16
          have hE1516 := hE15.trans hE16
          have hx'x : ∀ id ∈ slIds x, id ∉ slIds x' := fun id h1 h2 => by have := hx10l id h1; have := hx'n id h2; omega
          have hE310n : h3.n ≤ h10.n := by omega
          repeat' (first | refine w_reg ?_ | refine w_end (by simp only [outsV, nth, setV, List.take_succ_cons, List.take_zero, List.length_cons, List.length_nil, Nat.zero_add, Nat.reduceAdd] <;> rfl) ?_ | refine w_addN rfl rfl (by omega) ?_ | refine w_opk rfl rfl ?_)
          refine ⟨hkB, ⟨_, _, _, rfl⟩, hx16, hx12.ext hE1516 hx'x, hD12.ext hE1516 (fun id hid => .inr (hx'n id hid)), hE12.step hE1516 (fun jd hjd => .inr (by have := hx'n jd hjd; omega)), by omega, hy12.ext hE1516 (fun id off len ver e f hv => fun hm => ?_)⟩
          have := hy'l id (by rw [hv]; simp [slIds])
          have := hx'n id hm
          omega
        · have hkB : k = B.length := by omega
          subst hkB
          have hA12 := slot_at hx12.rs hil10
          rw [List.getElem_set_self] at hA12
          refine w_nilck rfl hA12 ?_
          refine w_fadr rfl hA12 rfl fun _ => ?_
          refine w_storeS rfl rfl hx12 hil10 (by rw [V.cells1 hx'.rs.one]; rfl) (by decide) (by rw [V.cells1 hx'.rs.one]; simp only [allOne, hx'.rs.one]) fun h17 hx17 hE17 hn17 => ?_
          rw [V.cells1 hx'.rs.one, List.getElem_set_self, List.set_set] at hx17
          replace hx17 : Ow h17 2 x (l.set i [.int .i64 cc, x']) := hx17
          have hx'x : ∀ id ∈ slIds x', id ∉ slIds x := fun id h1 h2 => by have := hx10l id h2; have := hx'n id h1; omega
          have hx'17 := hx'.ext hE17 hx'x
          have hD17 : Done h3 h17 x (l.set i [.int .i64 cc, x']) (addL PL QL) i h10.n := by
            have := (hD12.ext hE17 fun id hid => .inl hid).set (c := [.int .i64 cc, x'])
            rwa [List.set_set] at this
          have hE317 := hE12.step hE17 fun jd hjd => .inr (hxn jd hjd)
          repeat' (first | refine w_reg ?_ | refine w_end (by simp only [outsV, nth, setV, List.take_succ_cons, List.take_zero, List.length_cons, List.length_nil, Nat.zero_add, Nat.reduceAdd] <;> rfl) ?_ | refine w_addN rfl rfl (by omega) ?_ | refine w_opk rfl rfl ?_)
          refine ⟨by omega, _, ⟨_, _, _, _, _, _, _, _, _, _, _, _, rfl⟩, hx17, by simpa using hl, hE317, by omega, hR3.ext0 hE317, hD17.succ (s := addS s t) hget ?_ ?_ ?_ (fun id hid => ⟨?_, hx'x id hid⟩), fun j hj => ?_⟩
          · rw [List.getElem?_set_self hil, ← hcl]; rfl
          · simp only [addS, hor]; exact hx'17.rs
          · simp only [addS, hor, orTo_len]; exact hAl
          · have := hx'n id hid; omega
          · rw [List.getElem?_set_ne (by omega)]; exact hrest j (by omega)
    · have hiP : i = PL.length := by omega
      rw [hiP] at hD
      exact ⟨l, ⟨_, _, _, _, _, _, _, _, _, _, _, _, _, rfl⟩, hx, hl, hE, hR, hD⟩
  · rintro vs h ⟨l, ⟨c6, c8, c9, c10, c12, c13, c14, c15, c16, c17, c18, c19, c20, rfl⟩, hx, hl, hE, hR, hD⟩
    repeat' (first | refine w_seq ?_ | refine w_reg ?_ | refine w_opk rfl rfl ?_)
    refine w_build [x] rfl (by simp only [fillP, V.cells1 hx.rs.one, allOne, hx.rs.one]; rfl) ?_
    refine w_store rfl rfl hR rfl (by simp only [V.cells, allOne, hx.rs.one]) (by decide) (by simp) fun h5 hR5 hE5 _ => ?_
    replace hR5 : Own h5 iR [x] := hR5
    have E5 : Ext h0 h5 := (E3.trans hE).step hE5 fun jd hjd => by simp at hjd; exact .inr (by omega)
    have hx5 := hx.ext hE5 (fun jd hjd => by simp; intro e; exact hRx (e ▸ hjd))
    repeat' (first | refine w_end (by simp only [outsV, nth, setV, List.take_succ_cons, List.take_zero, List.length_cons, List.length_nil, Nat.zero_add, Nat.reduceAdd] <;> rfl) ?_ | refine w_ret ?_)
    refine w_rt (l := [.agg [x]]) (by
      show resV _ _ [.cell 2 true 1] = _
      have e1 := (hR5.at (hi := 1) rfl).agg (n := 1) (Nat.le_refl 1)
      simp only [resV, nth, e1]
      rfl) ⟨⟨x, rfl, l, hx5.rs, ?_, ?_, fun id hid => by have := hxn id hid; omega, ?_⟩, E5⟩
    · rw [hPQ, addL_len, hl]
    · rw [hPQ, addL_len]; exact bPL
    · intro i z s hz hs
      rw [hPQ] at hs
      have hi : i < PL.length := by
        have := (List.getElem?_eq_some_iff.1 hs).1
        rwa [addL_len] at this
      obtain ⟨tv, s', k1, k2, k3, k4, k5⟩ := hD i hi
      rw [hs] at k1
      simp only [Option.some.injEq] at k1
      subst k1
      rw [k2] at hz
      simp only [Option.some.injEq] at hz
      refine ⟨tv, hz.symm, k3.ext hE5 (fun id off len ver e f hv => fun hm => ?_), k4, fun id hid => by have := (k5 id hid).1; omega⟩
      simp at hm
      have := (k5 id (by rw [hv]; simp [slIds])).1
      omega
end AmT
