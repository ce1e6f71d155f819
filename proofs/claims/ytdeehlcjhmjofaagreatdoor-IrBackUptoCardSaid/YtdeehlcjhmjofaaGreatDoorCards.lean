/-
  DERIVED. GIVEN WITH THE SEED: THE CARDS: each row of YtdeehlcjhmjofaaGreatDoorRows.lean that lists a variable, with what it lists TIED to the program's text (the seventh form; the later family's looks); each row that meets fmt, with fmt's text TOLD by the authors' own Lean function (tested against real Go, not proved from fmt's source: count such statements apart). THE CARD IS WHAT COUNTS. Prove the row's statement (the work); the ties are given (YtdeehlcjhmjofaaGreatDoorTie.lean); close each card by the builder's one call (the guide's Derived/Test/ToyasCard.lean, 'card_holds'). Laid BY PROGRAM, IN A SANDBOX (cutbox-door.mjs). By AI agents, Wed Nov 11 2026. No macro, syntax, notation, axiom, sorry.
-/
import Derived.Test.YtdeehlcjhmjofaaGreatDoorRows
import GoSem.ClaimSeven
namespace Go.Proofs.YtdeehlcjhmjofaaGreatDoor
namespace Rows

/-- THE TIED CARD OF 'droverlaw12.BaseSteps'. -/
def baseStepsCard : Claim7 := { stood := { row := baseStepsRow, standIns := [], harness := (true, "4e782746d22a0d5088512cf6d1e5d108370a520f110871ee5a17627e5df2622e"), looks := true }, kinds := [], alts := [], laidByText := true, laidKinds := [.data, .data, .data, .sentinel, .sentinel, .listed, .data], laidTests := true, laidLooks := .later }
def BaseStepsCardSaid : Prop := Claim7.holds Tryz.pinned (.plain (OpenSpec.ofChange baseStepsSpec)) baseStepsCard

/-- THE TIED CARD OF 'droverlaw12.BaseSums'. -/
def baseSumsCard : Claim7 := { stood := { row := baseSumsRow, standIns := [], harness := (true, "4e782746d22a0d5088512cf6d1e5d108370a520f110871ee5a17627e5df2622e"), looks := true }, kinds := [], alts := [], laidByText := true, laidKinds := [.data, .data, .data, .sentinel, .sentinel, .listed, .data], laidTests := true, laidLooks := .later }
def BaseSumsCardSaid : Prop := Claim7.holds Tryz.pinned (.plain (OpenSpec.ofChange baseSumsSpec)) baseSumsCard

/-- THE TIED CARD OF 'droverlaw12.BaseReckons'. -/
def baseReckonsCard : Claim7 := { stood := { row := baseReckonsRow, standIns := [], harness := (true, "4e782746d22a0d5088512cf6d1e5d108370a520f110871ee5a17627e5df2622e"), looks := true }, kinds := [], alts := [], laidByText := true, laidKinds := [.data, .data, .data, .sentinel, .sentinel, .listed, .data], laidTests := true, laidLooks := .later }
def BaseReckonsCardSaid : Prop := Claim7.holds Tryz.pinned (.plain (OpenSpec.ofChange baseReckonsSpec)) baseReckonsCard

/-- THE TIED CARD OF 'droverlaw12.BaseDeep'. -/
def baseDeepCard : Claim7 := { stood := { row := baseDeepRow, standIns := [], harness := (true, "4e782746d22a0d5088512cf6d1e5d108370a520f110871ee5a17627e5df2622e"), looks := true }, kinds := [], alts := [], laidByText := true, laidKinds := [.data, .data, .data, .sentinel, .sentinel, .listed, .data], laidTests := true, laidLooks := .later }
def BaseDeepCardSaid : Prop := Claim7.holds Tryz.pinned (.plain (OpenSpec.ofChange baseDeepSpec)) baseDeepCard

/-- THE TIED CARD OF 'droverlaw12.BaseOrder'. -/
def baseOrderCard : Claim7 := { stood := { row := baseOrderRow, standIns := [], harness := (true, "4e782746d22a0d5088512cf6d1e5d108370a520f110871ee5a17627e5df2622e"), looks := true }, kinds := [], alts := [], laidByText := true, laidKinds := [.data, .data, .data, .sentinel, .sentinel, .listed, .data], laidTests := true, laidLooks := .later }
def BaseOrderCardSaid : Prop := Claim7.holds Tryz.pinned (.plain (OpenSpec.ofChange baseOrderSpec)) baseOrderCard

/-- THE TIED CARD OF 'droverlaw14.IrBack'. -/
def irBackCard : Claim7 := { stood := { row := irBackRow, standIns := [], harness := (true, "4e782746d22a0d5088512cf6d1e5d108370a520f110871ee5a17627e5df2622e"), looks := true }, kinds := [], alts := [], laidByText := true, laidKinds := [.data, .data, .data, .sentinel, .sentinel, .listed, .data], laidTests := true, laidLooks := .later }
def IrBackCardSaid : Prop := Claim7.holds Tryz.pinned (.plain (OpenSpec.ofChange irBackSpec)) irBackCard

/-- THE TIED CARD OF 'droverlaw14.IrCuts'. -/
def irCutsCard : Claim7 := { stood := { row := irCutsRow, standIns := [], harness := (true, "4e782746d22a0d5088512cf6d1e5d108370a520f110871ee5a17627e5df2622e"), looks := true }, kinds := [], alts := [], laidByText := true, laidKinds := [.data, .data, .data, .sentinel, .sentinel, .listed, .data], laidTests := true, laidLooks := .later }
def IrCutsCardSaid : Prop := Claim7.holds Tryz.pinned (.plain (OpenSpec.ofChange irCutsSpec)) irCutsCard

/-- THE TIED CARD OF 'droverlaw13.ProfileCounts'. -/
def profileCountsCard : Claim7 := { stood := { row := profileCountsRow, standIns := [], harness := (true, "4e782746d22a0d5088512cf6d1e5d108370a520f110871ee5a17627e5df2622e"), looks := true }, kinds := [], alts := [], laidByText := true, laidKinds := [.data, .data, .data, .sentinel, .sentinel, .listed, .data], laidTests := true, laidLooks := .later }
def ProfileCountsCardSaid : Prop := Claim7.holds Tryz.pinned (.plain (OpenSpec.ofChange profileCountsSpec)) profileCountsCard

/-- THE SECOND FORM's CARD OF 'droverlaw12.BaseSteps'. -/
def baseStepsUptoCard : Claim7 := { stood := { row := baseStepsUptoRow, standIns := [], harness := (true, "4e782746d22a0d5088512cf6d1e5d108370a520f110871ee5a17627e5df2622e"), looks := true }, kinds := [], alts := [], laidByText := true, laidKinds := [.data, .data, .data, .sentinel, .sentinel, .listed, .data], laidTests := true, laidLooks := .later }
def BaseStepsUptoCardSaid : Prop := Claim7.holds Tryz.pinned (.plain (OpenSpec.upto baseStepsSpec)) baseStepsUptoCard

/-- THE SECOND FORM's CARD OF 'droverlaw12.BaseSums'. -/
def baseSumsUptoCard : Claim7 := { stood := { row := baseSumsUptoRow, standIns := [], harness := (true, "4e782746d22a0d5088512cf6d1e5d108370a520f110871ee5a17627e5df2622e"), looks := true }, kinds := [], alts := [], laidByText := true, laidKinds := [.data, .data, .data, .sentinel, .sentinel, .listed, .data], laidTests := true, laidLooks := .later }
def BaseSumsUptoCardSaid : Prop := Claim7.holds Tryz.pinned (.plain (OpenSpec.upto baseSumsSpec)) baseSumsUptoCard

/-- THE SECOND FORM's CARD OF 'droverlaw12.BaseReckons'. -/
def baseReckonsUptoCard : Claim7 := { stood := { row := baseReckonsUptoRow, standIns := [], harness := (true, "4e782746d22a0d5088512cf6d1e5d108370a520f110871ee5a17627e5df2622e"), looks := true }, kinds := [], alts := [], laidByText := true, laidKinds := [.data, .data, .data, .sentinel, .sentinel, .listed, .data], laidTests := true, laidLooks := .later }
def BaseReckonsUptoCardSaid : Prop := Claim7.holds Tryz.pinned (.plain (OpenSpec.upto baseReckonsSpec)) baseReckonsUptoCard

/-- THE SECOND FORM's CARD OF 'droverlaw12.BaseDeep'. -/
def baseDeepUptoCard : Claim7 := { stood := { row := baseDeepUptoRow, standIns := [], harness := (true, "4e782746d22a0d5088512cf6d1e5d108370a520f110871ee5a17627e5df2622e"), looks := true }, kinds := [], alts := [], laidByText := true, laidKinds := [.data, .data, .data, .sentinel, .sentinel, .listed, .data], laidTests := true, laidLooks := .later }
def BaseDeepUptoCardSaid : Prop := Claim7.holds Tryz.pinned (.plain (OpenSpec.upto baseDeepSpec)) baseDeepUptoCard

/-- THE SECOND FORM's CARD OF 'droverlaw12.BaseOrder'. -/
def baseOrderUptoCard : Claim7 := { stood := { row := baseOrderUptoRow, standIns := [], harness := (true, "4e782746d22a0d5088512cf6d1e5d108370a520f110871ee5a17627e5df2622e"), looks := true }, kinds := [], alts := [], laidByText := true, laidKinds := [.data, .data, .data, .sentinel, .sentinel, .listed, .data], laidTests := true, laidLooks := .later }
def BaseOrderUptoCardSaid : Prop := Claim7.holds Tryz.pinned (.plain (OpenSpec.upto baseOrderSpec)) baseOrderUptoCard

/-- THE SECOND FORM's CARD OF 'droverlaw14.IrBack'. -/
def irBackUptoCard : Claim7 := { stood := { row := irBackUptoRow, standIns := [], harness := (true, "4e782746d22a0d5088512cf6d1e5d108370a520f110871ee5a17627e5df2622e"), looks := true }, kinds := [], alts := [], laidByText := true, laidKinds := [.data, .data, .data, .sentinel, .sentinel, .listed, .data], laidTests := true, laidLooks := .later }
def IrBackUptoCardSaid : Prop := Claim7.holds Tryz.pinned (.plain (OpenSpec.upto irBackSpec)) irBackUptoCard

/-- THE SECOND FORM's CARD OF 'droverlaw14.IrCuts'. -/
def irCutsUptoCard : Claim7 := { stood := { row := irCutsUptoRow, standIns := [], harness := (true, "4e782746d22a0d5088512cf6d1e5d108370a520f110871ee5a17627e5df2622e"), looks := true }, kinds := [], alts := [], laidByText := true, laidKinds := [.data, .data, .data, .sentinel, .sentinel, .listed, .data], laidTests := true, laidLooks := .later }
def IrCutsUptoCardSaid : Prop := Claim7.holds Tryz.pinned (.plain (OpenSpec.upto irCutsSpec)) irCutsUptoCard

/-- THE SECOND FORM's CARD OF 'droverlaw13.ProfileCounts'. -/
def profileCountsUptoCard : Claim7 := { stood := { row := profileCountsUptoRow, standIns := [], harness := (true, "4e782746d22a0d5088512cf6d1e5d108370a520f110871ee5a17627e5df2622e"), looks := true }, kinds := [], alts := [], laidByText := true, laidKinds := [.data, .data, .data, .sentinel, .sentinel, .listed, .data], laidTests := true, laidLooks := .later }
def ProfileCountsUptoCardSaid : Prop := Claim7.holds Tryz.pinned (.plain (OpenSpec.upto profileCountsSpec)) profileCountsUptoCard
end Rows
end Go.Proofs.YtdeehlcjhmjofaaGreatDoor
