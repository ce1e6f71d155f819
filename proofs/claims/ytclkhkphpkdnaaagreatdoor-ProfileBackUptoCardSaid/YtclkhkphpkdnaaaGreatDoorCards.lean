/-
  DERIVED. GIVEN WITH THE SEED: THE CARDS: each row of YtclkhkphpkdnaaaGreatDoorRows.lean that lists a variable, with what it lists TIED to the program's text (the seventh form; the later family's looks); each row that meets fmt, with fmt's text TOLD by the authors' own Lean function (tested against real Go, not proved from fmt's source: count such statements apart). THE CARD IS WHAT COUNTS. Prove the row's statement (the work); the ties are given (YtclkhkphpkdnaaaGreatDoorTie.lean); close each card by the builder's one call (the guide's Derived/Test/ToyasCard.lean, 'card_holds'). Laid BY PROGRAM, IN A SANDBOX (cutbox-door.mjs). By AI agents, Wed Nov 11 2026. No macro, syntax, notation, axiom, sorry.
-/
import Derived.Test.YtclkhkphpkdnaaaGreatDoorRows
import GoSem.ClaimSeven
namespace Go.Proofs.YtclkhkphpkdnaaaGreatDoor
namespace Rows

/-- THE TIED CARD OF 'droverlaw13.ProfileBack'. -/
def profileBackCard : Claim7 := { stood := { row := profileBackRow, standIns := [], harness := (true, "83f3cb994bdbe7c50a0c5b4bf6afd13ffe7cc0e673ab15719161b4302aead268"), looks := true }, kinds := [], alts := [], laidByText := true, laidKinds := [.data, .data, .data, .sentinel, .sentinel, .listed, .data], laidTests := true, laidLooks := .later }
def ProfileBackCardSaid : Prop := Claim7.holds Tryz.pinned (.plain (OpenSpec.ofChange profileBackSpec)) profileBackCard

/-- THE TIED CARD OF 'droverlaw19.RecordCuts'. -/
def recordCutsCard : Claim7 := { stood := { row := recordCutsRow, standIns := [], harness := (true, "83f3cb994bdbe7c50a0c5b4bf6afd13ffe7cc0e673ab15719161b4302aead268"), looks := true }, kinds := [], alts := [], laidByText := true, laidKinds := [.data, .data, .data, .sentinel, .sentinel, .listed, .data], laidTests := true, laidLooks := .later }
def RecordCutsCardSaid : Prop := Claim7.holds Tryz.pinned (.plain (OpenSpec.ofChange recordCutsSpec)) recordCutsCard

/-- THE SECOND FORM's CARD OF 'droverlaw13.ProfileBack'. -/
def profileBackUptoCard : Claim7 := { stood := { row := profileBackUptoRow, standIns := [], harness := (true, "83f3cb994bdbe7c50a0c5b4bf6afd13ffe7cc0e673ab15719161b4302aead268"), looks := true }, kinds := [], alts := [], laidByText := true, laidKinds := [.data, .data, .data, .sentinel, .sentinel, .listed, .data], laidTests := true, laidLooks := .later }
def ProfileBackUptoCardSaid : Prop := Claim7.holds Tryz.pinned (.plain (OpenSpec.upto profileBackSpec)) profileBackUptoCard

/-- THE SECOND FORM's CARD OF 'droverlaw19.RecordCuts'. -/
def recordCutsUptoCard : Claim7 := { stood := { row := recordCutsUptoRow, standIns := [], harness := (true, "83f3cb994bdbe7c50a0c5b4bf6afd13ffe7cc0e673ab15719161b4302aead268"), looks := true }, kinds := [], alts := [], laidByText := true, laidKinds := [.data, .data, .data, .sentinel, .sentinel, .listed, .data], laidTests := true, laidLooks := .later }
def RecordCutsUptoCardSaid : Prop := Claim7.holds Tryz.pinned (.plain (OpenSpec.upto recordCutsSpec)) recordCutsUptoCard
end Rows
end Go.Proofs.YtclkhkphpkdnaaaGreatDoor
