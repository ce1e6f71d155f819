/-
  DERIVED. GIVEN WITH THE SEED: THE CARDS: each row of YtofigbfckofbmaaGreatDoorRows.lean that lists a variable, with what it lists TIED to the program's text (the seventh form; the later family's looks); each row that meets fmt, with fmt's text TOLD by the authors' own Lean function (tested against real Go, not proved from fmt's source: count such statements apart). THE CARD IS WHAT COUNTS. Prove the row's statement (the work); the ties are given (YtofigbfckofbmaaGreatDoorTie.lean); close each card by the builder's one call (the guide's Derived/Test/ToyasCard.lean, 'card_holds'). Laid BY PROGRAM, IN A SANDBOX (cutbox-door.mjs). By AI agents, Wed Nov 11 2026. No macro, syntax, notation, axiom, sorry.
-/
import Derived.Test.YtofigbfckofbmaaGreatDoorRows
import GoSem.ClaimSeven
namespace Go.Proofs.YtofigbfckofbmaaGreatDoor
namespace Rows

/-- THE TIED CARD OF 'droverlaw14.IrSums'. -/
def irSumsCard : Claim7 := { stood := { row := irSumsRow, standIns := [], harness := (true, "f34767259cab4fac3d8d96b7bdccfde680b94065f80aa4de173f8cf9a9278902"), looks := true }, kinds := [], alts := [], laidByText := true, laidKinds := [.data, .data, .data, .sentinel, .sentinel, .listed, .data], laidTests := true, laidLooks := .later }
def IrSumsCardSaid : Prop := Claim7.holds Tryz.pinned (.plain (OpenSpec.ofChange irSumsSpec)) irSumsCard

/-- THE TIED CARD OF 'droverlaw14.IrHangs'. -/
def irHangsCard : Claim7 := { stood := { row := irHangsRow, standIns := [], harness := (true, "f34767259cab4fac3d8d96b7bdccfde680b94065f80aa4de173f8cf9a9278902"), looks := true }, kinds := [], alts := [], laidByText := true, laidKinds := [.data, .data, .data, .sentinel, .sentinel, .listed, .data], laidTests := true, laidLooks := .later }
def IrHangsCardSaid : Prop := Claim7.holds Tryz.pinned (.plain (OpenSpec.ofChange irHangsSpec)) irHangsCard

/-- THE TIED CARD OF 'droverlaw14.IrNeeds'. -/
def irNeedsCard : Claim7 := { stood := { row := irNeedsRow, standIns := [], harness := (true, "f34767259cab4fac3d8d96b7bdccfde680b94065f80aa4de173f8cf9a9278902"), looks := true }, kinds := [], alts := [], laidByText := true, laidKinds := [.data, .data, .data, .sentinel, .sentinel, .listed, .data], laidTests := true, laidLooks := .later }
def IrNeedsCardSaid : Prop := Claim7.holds Tryz.pinned (.plain (OpenSpec.ofChange irNeedsSpec)) irNeedsCard

/-- THE TIED CARD OF 'droverlaw13.ProfileAdds'. -/
def profileAddsCard : Claim7 := { stood := { row := profileAddsRow, standIns := [], harness := (true, "f34767259cab4fac3d8d96b7bdccfde680b94065f80aa4de173f8cf9a9278902"), looks := true }, kinds := [], alts := [], laidByText := true, laidKinds := [.data, .data, .data, .sentinel, .sentinel, .listed, .data], laidTests := true, laidLooks := .later }
def ProfileAddsCardSaid : Prop := Claim7.holds Tryz.pinned (.plain (OpenSpec.ofChange profileAddsSpec)) profileAddsCard

/-- THE TIED CARD OF 'droverlaw12.BaseNone'. -/
def baseNoneCard : Claim7 := { stood := { row := baseNoneRow, standIns := [], harness := (true, "f34767259cab4fac3d8d96b7bdccfde680b94065f80aa4de173f8cf9a9278902"), looks := true }, kinds := [], alts := [], laidByText := true, laidKinds := [.data, .data, .data, .sentinel, .sentinel, .listed, .data], laidTests := true, laidLooks := .later }
def BaseNoneCardSaid : Prop := Claim7.holds Tryz.pinned (.plain (OpenSpec.ofChange baseNoneSpec)) baseNoneCard

/-- THE TIED CARD OF 'droverlaw12.BaseReckons'. -/
def baseReckonsCard : Claim7 := { stood := { row := baseReckonsRow, standIns := [], harness := (true, "f34767259cab4fac3d8d96b7bdccfde680b94065f80aa4de173f8cf9a9278902"), looks := true }, kinds := [], alts := [], laidByText := true, laidKinds := [.data, .data, .data, .sentinel, .sentinel, .listed, .data], laidTests := true, laidLooks := .later }
def BaseReckonsCardSaid : Prop := Claim7.holds Tryz.pinned (.plain (OpenSpec.ofChange baseReckonsSpec)) baseReckonsCard

/-- THE SECOND FORM's CARD OF 'droverlaw14.IrSums'. -/
def irSumsUptoCard : Claim7 := { stood := { row := irSumsUptoRow, standIns := [], harness := (true, "f34767259cab4fac3d8d96b7bdccfde680b94065f80aa4de173f8cf9a9278902"), looks := true }, kinds := [], alts := [], laidByText := true, laidKinds := [.data, .data, .data, .sentinel, .sentinel, .listed, .data], laidTests := true, laidLooks := .later }
def IrSumsUptoCardSaid : Prop := Claim7.holds Tryz.pinned (.plain (OpenSpec.upto irSumsSpec)) irSumsUptoCard

/-- THE SECOND FORM's CARD OF 'droverlaw14.IrHangs'. -/
def irHangsUptoCard : Claim7 := { stood := { row := irHangsUptoRow, standIns := [], harness := (true, "f34767259cab4fac3d8d96b7bdccfde680b94065f80aa4de173f8cf9a9278902"), looks := true }, kinds := [], alts := [], laidByText := true, laidKinds := [.data, .data, .data, .sentinel, .sentinel, .listed, .data], laidTests := true, laidLooks := .later }
def IrHangsUptoCardSaid : Prop := Claim7.holds Tryz.pinned (.plain (OpenSpec.upto irHangsSpec)) irHangsUptoCard

/-- THE SECOND FORM's CARD OF 'droverlaw14.IrNeeds'. -/
def irNeedsUptoCard : Claim7 := { stood := { row := irNeedsUptoRow, standIns := [], harness := (true, "f34767259cab4fac3d8d96b7bdccfde680b94065f80aa4de173f8cf9a9278902"), looks := true }, kinds := [], alts := [], laidByText := true, laidKinds := [.data, .data, .data, .sentinel, .sentinel, .listed, .data], laidTests := true, laidLooks := .later }
def IrNeedsUptoCardSaid : Prop := Claim7.holds Tryz.pinned (.plain (OpenSpec.upto irNeedsSpec)) irNeedsUptoCard

/-- THE SECOND FORM's CARD OF 'droverlaw13.ProfileAdds'. -/
def profileAddsUptoCard : Claim7 := { stood := { row := profileAddsUptoRow, standIns := [], harness := (true, "f34767259cab4fac3d8d96b7bdccfde680b94065f80aa4de173f8cf9a9278902"), looks := true }, kinds := [], alts := [], laidByText := true, laidKinds := [.data, .data, .data, .sentinel, .sentinel, .listed, .data], laidTests := true, laidLooks := .later }
def ProfileAddsUptoCardSaid : Prop := Claim7.holds Tryz.pinned (.plain (OpenSpec.upto profileAddsSpec)) profileAddsUptoCard

/-- THE SECOND FORM's CARD OF 'droverlaw12.BaseNone'. -/
def baseNoneUptoCard : Claim7 := { stood := { row := baseNoneUptoRow, standIns := [], harness := (true, "f34767259cab4fac3d8d96b7bdccfde680b94065f80aa4de173f8cf9a9278902"), looks := true }, kinds := [], alts := [], laidByText := true, laidKinds := [.data, .data, .data, .sentinel, .sentinel, .listed, .data], laidTests := true, laidLooks := .later }
def BaseNoneUptoCardSaid : Prop := Claim7.holds Tryz.pinned (.plain (OpenSpec.upto baseNoneSpec)) baseNoneUptoCard

/-- THE SECOND FORM's CARD OF 'droverlaw12.BaseReckons'. -/
def baseReckonsUptoCard : Claim7 := { stood := { row := baseReckonsUptoRow, standIns := [], harness := (true, "f34767259cab4fac3d8d96b7bdccfde680b94065f80aa4de173f8cf9a9278902"), looks := true }, kinds := [], alts := [], laidByText := true, laidKinds := [.data, .data, .data, .sentinel, .sentinel, .listed, .data], laidTests := true, laidLooks := .later }
def BaseReckonsUptoCardSaid : Prop := Claim7.holds Tryz.pinned (.plain (OpenSpec.upto baseReckonsSpec)) baseReckonsUptoCard
end Rows
end Go.Proofs.YtofigbfckofbmaaGreatDoor
