/-
  A world that holds what the rows of this seat list, and what a row's list gives: the library's table of white space. Conditions: none beyond those that each theorem states.
-/
import Derived.Test.YtfiajgdgjajcnaaGreatDoorCards
import Derived.Test.YtfiajgdgjajcnaaGreatDoorTie
import Derived.Test.YtfiajgdgjajcnaaGreatDoorAmC
import Derived.ProofKit
import Derived.OpenShut
import Derived.Deep.DeepHandedRow
import Derived.Deep.DeepWitnessRowRef
import Derived.Lib.LaidTab
import Derived.Stop.LaidErr
namespace Go.Proofs.YtfiajgdgjajcnaaGreatDoor.wit
open Go.ChangeShapes Go.WideShapes Go.ChangeAt Go.RowKit

theorem own : ownKnob Tryz.prog.godebug = none := by kernel_rfl

def tabCells : DataW Unit → Array Value
  | .agg l => (l.map fun d => (match d with | .lit (.int k n) => Value.int k n | _ => Value.nilFunc)).toArray
  | _ => #[]

def setC (h : Array Go.Obj) (i : Nat) (c : Array Value) : Array Go.Obj := h.modify i fun o => match o with
  | .cells _ t fr => .cells c t fr
  | o => o

def ranges : Array Value := #[9, 13, 1, 32, 133, 101, 160, 5760, 5600, 8192, 8202, 1, 8232, 8233, 1, 8239, 8287, 48, 12288, 12288, 1].map fun n => Value.int .u16 n

def str (l : List UInt8) : Value := .string ⟨l.toArray⟩

def laidHeap (h : Array Go.Obj) : Array Go.Obj :=
  let h := setC h 6 (tabCells Rows.laid_math_bits_deBruijn32tab)
  let h := setC h 7 (tabCells Rows.laid_math_bits_deBruijn64tab)
  let h := setC h 2 (tabCells Rows.laid_internal_strconv_uint64pow10)
  let h := setC h 1 (tabCells Rows.laid_strings_asciiSpace)
  let n := h.size
  let h := setC h 3 #[.pointer (some ⟨n, 0, none⟩)]
  let h := setC h 4 #[.iface 472 (.pointer (some ⟨n + 2, 0, none⟩))]
  let h := setC h 5 #[.iface 472 (.pointer (some ⟨n + 3, 0, none⟩))]
  (((h.push (.cells #[.slice (some ⟨n + 1, 0, none⟩) 7 7, .slice none 0 0, .int .i64 2] 462)).push (.cells ranges 465)).push (.cells #[str [105, 110, 118, 97, 108, 105, 100, 32, 115, 121, 110, 116, 97, 120]] 474)).push
    (.cells #[str [118, 97, 108, 117, 101, 32, 111, 117, 116, 32, 111, 102, 32, 114, 97, 110, 103, 101]] 474)

noncomputable def laidWorld (os : Os) : World :=
  { World.holding Tryz.prog os ⟨#[], #[], []⟩ with heap := laidHeap (World.holding Tryz.prog os ⟨#[], #[], []⟩).heap }

theorem gTab : Tryz.prog.globalNamed "strings.asciiSpace" = some 1 := by kernel_rfl
theorem gTabType : (Tryz.prog.globals[1]?).map (·.type) = some 426 := by kernel_rfl
theorem tabArr : Tryz.prog.underlying 426 = some (.array 256 5) := by kernel_rfl
theorem tabElem : Tryz.prog.underlying 5 = some (.int .u8) := by kernel_rfl
theorem tabCells1 : Tryz.prog.cellsOf 5 = 1 := by kernel_rfl
theorem tabCells2 : Tryz.prog.cellsOf 426 = 256 := by kernel_rfl
def zs : List Int := (List.range 256).map fun k => if k ∈ [9, 10, 11, 12, 13, 32] then 1 else 0

/-- What the rows list. -/
abbrev theList : List (String × DataW Unit) :=
  [("math/bits.deBruijn32tab", Rows.laid_math_bits_deBruijn32tab), ("math/bits.deBruijn64tab", Rows.laid_math_bits_deBruijn64tab), ("internal/strconv.uint64pow10", Rows.laid_internal_strconv_uint64pow10), ("strconv.ErrRange", Rows.laid_strconv_ErrRange),
    ("strconv.ErrSyntax", Rows.laid_strconv_ErrSyntax), ("unicode.White_Space", Rows.laid_unicode_White_Space), ("strings.asciiSpace", Rows.laid_strings_asciiSpace)]

theorem plainList : (theList.filter fun x => x.2.handleName?.isSome) = [] := by kernel_rfl

theorem lastIs : Rows.laid_strings_asciiSpace (H := Unit) = Go.Lib.tabData .u8 zs := by kernel_rfl

theorem table {W : World} (h : laidMetH Tryz.prog theList W) : Go.Lib.TabIs Tryz.prog W "strings.asciiSpace" .u8 zs := by
  have h0 : laidMet Tryz.prog theList W := by
    unfold laidMetH at h
    rw [plainList] at h
    exact h
  have h1 := h0.tail.tail.tail.tail.tail.tail
  rw [lastIs] at h1
  exact Go.Lib.tabIs_of_head (rest := []) gTab gTabType tabArr tabElem tabCells1 tabCells2 h1

theorem laid_met (os : Os) (args : Array Value) : laidMet Tryz.prog theList ((laidWorld os).forCall (fun _ _ => 0) ⟨#[], args, []⟩).memory :=
  laidMet_of_run' 8 (by kernel_rfl) (by kernel_rfl)

end Go.Proofs.YtfiajgdgjajcnaaGreatDoor.wit
