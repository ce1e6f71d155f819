/-
  DERIVED. GIVEN WITH THE SEED: THE CARDS: each row of YtncbfghlokfmeaaGreatDoorRows.lean that lists a variable, with what it lists TIED to the program's text (the seventh form; the later family's looks); each row that meets fmt, with fmt's text TOLD by the authors' own Lean function (tested against real Go, not proved from fmt's source: count such statements apart). THE CARD IS WHAT COUNTS. Prove the row's statement (the work); the ties are given (YtncbfghlokfmeaaGreatDoorTie.lean); close each card by the builder's one call (the guide's Derived/Test/ToyasCard.lean, 'card_holds'). Laid BY PROGRAM, IN A SANDBOX (cutbox-door.mjs). By AI agents, Wed Nov 11 2026. No macro, syntax, notation, axiom, sorry.
-/
import Derived.Test.YtncbfghlokfmeaaGreatDoorRows
import GoSem.ClaimSeven
namespace Go.Proofs.YtncbfghlokfmeaaGreatDoor
namespace Rows

/-- THE TIED CARD OF 'droverlaw12.BaseSums'. -/
def baseSumsCard : Claim7 := { stood := { row := baseSumsRow, standIns := [], harness := (true, "e8ee9a205db916c32b64d65f1c5bc06bd69383cf33bf206a56e751de5e6ef446"), looks := true }, kinds := [], alts := [], laidByText := true, laidKinds := [.data, .data, .data, .sentinel, .sentinel, .listed, .data], laidTests := true, laidLooks := .later }
def BaseSumsCardSaid : Prop := Claim7.holds Tryz.pinned (.plain (OpenSpec.ofChange baseSumsSpec)) baseSumsCard

/-- THE TIED CARD OF 'droverlaw12.BaseReckons'. -/
def baseReckonsCard : Claim7 := { stood := { row := baseReckonsRow, standIns := [], harness := (true, "e8ee9a205db916c32b64d65f1c5bc06bd69383cf33bf206a56e751de5e6ef446"), looks := true }, kinds := [], alts := [], laidByText := true, laidKinds := [.data, .data, .data, .sentinel, .sentinel, .listed, .data], laidTests := true, laidLooks := .later }
def BaseReckonsCardSaid : Prop := Claim7.holds Tryz.pinned (.plain (OpenSpec.ofChange baseReckonsSpec)) baseReckonsCard

/-- THE TIED CARD OF 'droverlaw12.BaseDeep'. -/
def baseDeepCard : Claim7 := { stood := { row := baseDeepRow, standIns := [], harness := (true, "e8ee9a205db916c32b64d65f1c5bc06bd69383cf33bf206a56e751de5e6ef446"), looks := true }, kinds := [], alts := [], laidByText := true, laidKinds := [.data, .data, .data, .sentinel, .sentinel, .listed, .data], laidTests := true, laidLooks := .later }
def BaseDeepCardSaid : Prop := Claim7.holds Tryz.pinned (.plain (OpenSpec.ofChange baseDeepSpec)) baseDeepCard

/-- THE TIED CARD OF 'droverlaw12.BaseOrder'. -/
def baseOrderCard : Claim7 := { stood := { row := baseOrderRow, standIns := [], harness := (true, "e8ee9a205db916c32b64d65f1c5bc06bd69383cf33bf206a56e751de5e6ef446"), looks := true }, kinds := [], alts := [], laidByText := true, laidKinds := [.data, .data, .data, .sentinel, .sentinel, .listed, .data], laidTests := true, laidLooks := .later }
def BaseOrderCardSaid : Prop := Claim7.holds Tryz.pinned (.plain (OpenSpec.ofChange baseOrderSpec)) baseOrderCard

/-- THE TIED CARD OF 'droverlaw13.ProfileCounts'. -/
def profileCountsCard : Claim7 := { stood := { row := profileCountsRow, standIns := [], harness := (true, "e8ee9a205db916c32b64d65f1c5bc06bd69383cf33bf206a56e751de5e6ef446"), looks := true }, kinds := [], alts := [], laidByText := true, laidKinds := [.data, .data, .data, .sentinel, .sentinel, .listed, .data], laidTests := true, laidLooks := .later }
def ProfileCountsCardSaid : Prop := Claim7.holds Tryz.pinned (.plain (OpenSpec.ofChange profileCountsSpec)) profileCountsCard

/-- THE TIED CARD OF 'droverlaw19.RecordCuts'. -/
def recordCutsCard : Claim7 := { stood := { row := recordCutsRow, standIns := [], harness := (true, "e8ee9a205db916c32b64d65f1c5bc06bd69383cf33bf206a56e751de5e6ef446"), looks := true }, kinds := [], alts := [], laidByText := true, laidKinds := [.data, .data, .data, .sentinel, .sentinel, .listed, .data], laidTests := true, laidLooks := .later }
def RecordCutsCardSaid : Prop := Claim7.holds Tryz.pinned (.plain (OpenSpec.ofChange recordCutsSpec)) recordCutsCard

/-- THE SECOND FORM's CARD OF 'droverlaw12.BaseSums'. -/
def baseSumsUptoCard : Claim7 := { stood := { row := baseSumsUptoRow, standIns := [], harness := (true, "e8ee9a205db916c32b64d65f1c5bc06bd69383cf33bf206a56e751de5e6ef446"), looks := true }, kinds := [], alts := [], laidByText := true, laidKinds := [.data, .data, .data, .sentinel, .sentinel, .listed, .data], laidTests := true, laidLooks := .later }
def BaseSumsUptoCardSaid : Prop := Claim7.holds Tryz.pinned (.plain (OpenSpec.upto baseSumsSpec)) baseSumsUptoCard

/-- THE SECOND FORM's CARD OF 'droverlaw12.BaseReckons'. -/
def baseReckonsUptoCard : Claim7 := { stood := { row := baseReckonsUptoRow, standIns := [], harness := (true, "e8ee9a205db916c32b64d65f1c5bc06bd69383cf33bf206a56e751de5e6ef446"), looks := true }, kinds := [], alts := [], laidByText := true, laidKinds := [.data, .data, .data, .sentinel, .sentinel, .listed, .data], laidTests := true, laidLooks := .later }
def BaseReckonsUptoCardSaid : Prop := Claim7.holds Tryz.pinned (.plain (OpenSpec.upto baseReckonsSpec)) baseReckonsUptoCard

/-- THE SECOND FORM's CARD OF 'droverlaw12.BaseDeep'. -/
def baseDeepUptoCard : Claim7 := { stood := { row := baseDeepUptoRow, standIns := [], harness := (true, "e8ee9a205db916c32b64d65f1c5bc06bd69383cf33bf206a56e751de5e6ef446"), looks := true }, kinds := [], alts := [], laidByText := true, laidKinds := [.data, .data, .data, .sentinel, .sentinel, .listed, .data], laidTests := true, laidLooks := .later }
def BaseDeepUptoCardSaid : Prop := Claim7.holds Tryz.pinned (.plain (OpenSpec.upto baseDeepSpec)) baseDeepUptoCard

/-- THE SECOND FORM's CARD OF 'droverlaw12.BaseOrder'. -/
def baseOrderUptoCard : Claim7 := { stood := { row := baseOrderUptoRow, standIns := [], harness := (true, "e8ee9a205db916c32b64d65f1c5bc06bd69383cf33bf206a56e751de5e6ef446"), looks := true }, kinds := [], alts := [], laidByText := true, laidKinds := [.data, .data, .data, .sentinel, .sentinel, .listed, .data], laidTests := true, laidLooks := .later }
def BaseOrderUptoCardSaid : Prop := Claim7.holds Tryz.pinned (.plain (OpenSpec.upto baseOrderSpec)) baseOrderUptoCard

/-- THE SECOND FORM's CARD OF 'droverlaw13.ProfileCounts'. -/
def profileCountsUptoCard : Claim7 := { stood := { row := profileCountsUptoRow, standIns := [], harness := (true, "e8ee9a205db916c32b64d65f1c5bc06bd69383cf33bf206a56e751de5e6ef446"), looks := true }, kinds := [], alts := [], laidByText := true, laidKinds := [.data, .data, .data, .sentinel, .sentinel, .listed, .data], laidTests := true, laidLooks := .later }
def ProfileCountsUptoCardSaid : Prop := Claim7.holds Tryz.pinned (.plain (OpenSpec.upto profileCountsSpec)) profileCountsUptoCard

/-- THE SECOND FORM's CARD OF 'droverlaw19.RecordCuts'. -/
def recordCutsUptoCard : Claim7 := { stood := { row := recordCutsUptoRow, standIns := [], harness := (true, "e8ee9a205db916c32b64d65f1c5bc06bd69383cf33bf206a56e751de5e6ef446"), looks := true }, kinds := [], alts := [], laidByText := true, laidKinds := [.data, .data, .data, .sentinel, .sentinel, .listed, .data], laidTests := true, laidLooks := .later }
def RecordCutsUptoCardSaid : Prop := Claim7.holds Tryz.pinned (.plain (OpenSpec.upto recordCutsSpec)) recordCutsUptoCard
end Rows
end Go.Proofs.YtncbfghlokfmeaaGreatDoor
