/-
  DERIVED. GIVEN WITH THE SEED: THE CARDS: each row of YtaldgnccoopepaaGreatDoorRows.lean that lists a variable, with what it lists TIED to the program's text (the seventh form; the later family's looks); each row that meets fmt, with fmt's text TOLD by the authors' own Lean function (tested against real Go, not proved from fmt's source: count such statements apart). THE CARD IS WHAT COUNTS. Prove the row's statement (the work); the ties are given (YtaldgnccoopepaaGreatDoorTie.lean); close each card by the builder's one call (the guide's Derived/Test/ToyasCard.lean, 'card_holds'). Laid BY PROGRAM, IN A SANDBOX (cutbox-door.mjs). By AI agents, Wed Nov 11 2026. No macro, syntax, notation, axiom, sorry.
-/
import Derived.Test.YtaldgnccoopepaaGreatDoorRows
import GoSem.ClaimSeven
namespace Go.Proofs.YtaldgnccoopepaaGreatDoor
namespace Rows

/-- THE TIED CARD OF 'droverlaw12.BaseShort'. -/
def baseShortCard : Claim7 := { stood := { row := baseShortRow, standIns := [], harness := (true, "1b5a4950535dfabff4622e998bbf427c6497ba198477d4ece7662a45d391173b"), looks := true }, kinds := [], alts := [], laidByText := true, laidKinds := [.data, .data, .data, .sentinel, .sentinel, .listed, .data], laidTests := true, laidLooks := .later }
def BaseShortCardSaid : Prop := Claim7.holds Tryz.pinned (.plain (OpenSpec.ofChange baseShortSpec)) baseShortCard

/-- THE TIED CARD OF 'droverlaw12.BaseEnds'. -/
def baseEndsCard : Claim7 := { stood := { row := baseEndsRow, standIns := [], harness := (true, "1b5a4950535dfabff4622e998bbf427c6497ba198477d4ece7662a45d391173b"), looks := true }, kinds := [], alts := [], laidByText := true, laidKinds := [.data, .data, .data, .sentinel, .sentinel, .listed, .data], laidTests := true, laidLooks := .later }
def BaseEndsCardSaid : Prop := Claim7.holds Tryz.pinned (.plain (OpenSpec.ofChange baseEndsSpec)) baseEndsCard

/-- THE TIED CARD OF 'droverlaw12.BaseReckons'. -/
def baseReckonsCard : Claim7 := { stood := { row := baseReckonsRow, standIns := [], harness := (true, "1b5a4950535dfabff4622e998bbf427c6497ba198477d4ece7662a45d391173b"), looks := true }, kinds := [], alts := [], laidByText := true, laidKinds := [.data, .data, .data, .sentinel, .sentinel, .listed, .data], laidTests := true, laidLooks := .later }
def BaseReckonsCardSaid : Prop := Claim7.holds Tryz.pinned (.plain (OpenSpec.ofChange baseReckonsSpec)) baseReckonsCard

/-- THE TIED CARD OF 'droverlaw12.BaseDeep'. -/
def baseDeepCard : Claim7 := { stood := { row := baseDeepRow, standIns := [], harness := (true, "1b5a4950535dfabff4622e998bbf427c6497ba198477d4ece7662a45d391173b"), looks := true }, kinds := [], alts := [], laidByText := true, laidKinds := [.data, .data, .data, .sentinel, .sentinel, .listed, .data], laidTests := true, laidLooks := .later }
def BaseDeepCardSaid : Prop := Claim7.holds Tryz.pinned (.plain (OpenSpec.ofChange baseDeepSpec)) baseDeepCard

/-- THE TIED CARD OF 'droverlaw12.BaseSums'. -/
def baseSumsCard : Claim7 := { stood := { row := baseSumsRow, standIns := [], harness := (true, "1b5a4950535dfabff4622e998bbf427c6497ba198477d4ece7662a45d391173b"), looks := true }, kinds := [], alts := [], laidByText := true, laidKinds := [.data, .data, .data, .sentinel, .sentinel, .listed, .data], laidTests := true, laidLooks := .later }
def BaseSumsCardSaid : Prop := Claim7.holds Tryz.pinned (.plain (OpenSpec.ofChange baseSumsSpec)) baseSumsCard

/-- THE TIED CARD OF 'droverlaw12.BaseOrder'. -/
def baseOrderCard : Claim7 := { stood := { row := baseOrderRow, standIns := [], harness := (true, "1b5a4950535dfabff4622e998bbf427c6497ba198477d4ece7662a45d391173b"), looks := true }, kinds := [], alts := [], laidByText := true, laidKinds := [.data, .data, .data, .sentinel, .sentinel, .listed, .data], laidTests := true, laidLooks := .later }
def BaseOrderCardSaid : Prop := Claim7.holds Tryz.pinned (.plain (OpenSpec.ofChange baseOrderSpec)) baseOrderCard

/-- THE TIED CARD OF 'droverlaw13.ProfileCounts'. -/
def profileCountsCard : Claim7 := { stood := { row := profileCountsRow, standIns := [], harness := (true, "1b5a4950535dfabff4622e998bbf427c6497ba198477d4ece7662a45d391173b"), looks := true }, kinds := [], alts := [], laidByText := true, laidKinds := [.data, .data, .data, .sentinel, .sentinel, .listed, .data], laidTests := true, laidLooks := .later }
def ProfileCountsCardSaid : Prop := Claim7.holds Tryz.pinned (.plain (OpenSpec.ofChange profileCountsSpec)) profileCountsCard

/-- THE TIED CARD OF 'droverlaw16.TierKinds'. -/
def tierKindsCard : Claim7 := { stood := { row := tierKindsRow, standIns := [], harness := (true, "1b5a4950535dfabff4622e998bbf427c6497ba198477d4ece7662a45d391173b"), looks := true }, kinds := [], alts := [], laidByText := true, laidKinds := [.data, .data, .data, .sentinel, .sentinel, .listed, .data], laidTests := true, laidLooks := .later }
def TierKindsCardSaid : Prop := Claim7.holds Tryz.pinned (.plain (OpenSpec.ofChange tierKindsSpec)) tierKindsCard

/-- THE TIED CARD OF 'droverlaw25.ModelTraps'. -/
def modelTrapsCard : Claim7 := { stood := { row := modelTrapsRow, standIns := [], harness := (true, "1b5a4950535dfabff4622e998bbf427c6497ba198477d4ece7662a45d391173b"), looks := true }, kinds := [], alts := [], laidByText := true, laidKinds := [.data, .data, .data, .sentinel, .sentinel, .listed, .data], laidTests := true, laidLooks := .later }
def ModelTrapsCardSaid : Prop := Claim7.holds Tryz.pinned (.plain (OpenSpec.ofChange modelTrapsSpec)) modelTrapsCard

/-- THE TIED CARD OF 'droverlaw14.IrSums'. -/
def irSumsCard : Claim7 := { stood := { row := irSumsRow, standIns := [], harness := (true, "1b5a4950535dfabff4622e998bbf427c6497ba198477d4ece7662a45d391173b"), looks := true }, kinds := [], alts := [], laidByText := true, laidKinds := [.data, .data, .data, .sentinel, .sentinel, .listed, .data], laidTests := true, laidLooks := .later }
def IrSumsCardSaid : Prop := Claim7.holds Tryz.pinned (.plain (OpenSpec.ofChange irSumsSpec)) irSumsCard

/-- THE TIED CARD OF 'droverlaw14.IrHangs'. -/
def irHangsCard : Claim7 := { stood := { row := irHangsRow, standIns := [], harness := (true, "1b5a4950535dfabff4622e998bbf427c6497ba198477d4ece7662a45d391173b"), looks := true }, kinds := [], alts := [], laidByText := true, laidKinds := [.data, .data, .data, .sentinel, .sentinel, .listed, .data], laidTests := true, laidLooks := .later }
def IrHangsCardSaid : Prop := Claim7.holds Tryz.pinned (.plain (OpenSpec.ofChange irHangsSpec)) irHangsCard

/-- THE TIED CARD OF 'droverlaw14.IrNeeds'. -/
def irNeedsCard : Claim7 := { stood := { row := irNeedsRow, standIns := [], harness := (true, "1b5a4950535dfabff4622e998bbf427c6497ba198477d4ece7662a45d391173b"), looks := true }, kinds := [], alts := [], laidByText := true, laidKinds := [.data, .data, .data, .sentinel, .sentinel, .listed, .data], laidTests := true, laidLooks := .later }
def IrNeedsCardSaid : Prop := Claim7.holds Tryz.pinned (.plain (OpenSpec.ofChange irNeedsSpec)) irNeedsCard

/-- THE SECOND FORM's CARD OF 'droverlaw12.BaseShort'. -/
def baseShortUptoCard : Claim7 := { stood := { row := baseShortUptoRow, standIns := [], harness := (true, "1b5a4950535dfabff4622e998bbf427c6497ba198477d4ece7662a45d391173b"), looks := true }, kinds := [], alts := [], laidByText := true, laidKinds := [.data, .data, .data, .sentinel, .sentinel, .listed, .data], laidTests := true, laidLooks := .later }
def BaseShortUptoCardSaid : Prop := Claim7.holds Tryz.pinned (.plain (OpenSpec.upto baseShortSpec)) baseShortUptoCard

/-- THE SECOND FORM's CARD OF 'droverlaw12.BaseEnds'. -/
def baseEndsUptoCard : Claim7 := { stood := { row := baseEndsUptoRow, standIns := [], harness := (true, "1b5a4950535dfabff4622e998bbf427c6497ba198477d4ece7662a45d391173b"), looks := true }, kinds := [], alts := [], laidByText := true, laidKinds := [.data, .data, .data, .sentinel, .sentinel, .listed, .data], laidTests := true, laidLooks := .later }
def BaseEndsUptoCardSaid : Prop := Claim7.holds Tryz.pinned (.plain (OpenSpec.upto baseEndsSpec)) baseEndsUptoCard

/-- THE SECOND FORM's CARD OF 'droverlaw12.BaseReckons'. -/
def baseReckonsUptoCard : Claim7 := { stood := { row := baseReckonsUptoRow, standIns := [], harness := (true, "1b5a4950535dfabff4622e998bbf427c6497ba198477d4ece7662a45d391173b"), looks := true }, kinds := [], alts := [], laidByText := true, laidKinds := [.data, .data, .data, .sentinel, .sentinel, .listed, .data], laidTests := true, laidLooks := .later }
def BaseReckonsUptoCardSaid : Prop := Claim7.holds Tryz.pinned (.plain (OpenSpec.upto baseReckonsSpec)) baseReckonsUptoCard

/-- THE SECOND FORM's CARD OF 'droverlaw12.BaseDeep'. -/
def baseDeepUptoCard : Claim7 := { stood := { row := baseDeepUptoRow, standIns := [], harness := (true, "1b5a4950535dfabff4622e998bbf427c6497ba198477d4ece7662a45d391173b"), looks := true }, kinds := [], alts := [], laidByText := true, laidKinds := [.data, .data, .data, .sentinel, .sentinel, .listed, .data], laidTests := true, laidLooks := .later }
def BaseDeepUptoCardSaid : Prop := Claim7.holds Tryz.pinned (.plain (OpenSpec.upto baseDeepSpec)) baseDeepUptoCard

/-- THE SECOND FORM's CARD OF 'droverlaw12.BaseSums'. -/
def baseSumsUptoCard : Claim7 := { stood := { row := baseSumsUptoRow, standIns := [], harness := (true, "1b5a4950535dfabff4622e998bbf427c6497ba198477d4ece7662a45d391173b"), looks := true }, kinds := [], alts := [], laidByText := true, laidKinds := [.data, .data, .data, .sentinel, .sentinel, .listed, .data], laidTests := true, laidLooks := .later }
def BaseSumsUptoCardSaid : Prop := Claim7.holds Tryz.pinned (.plain (OpenSpec.upto baseSumsSpec)) baseSumsUptoCard

/-- THE SECOND FORM's CARD OF 'droverlaw12.BaseOrder'. -/
def baseOrderUptoCard : Claim7 := { stood := { row := baseOrderUptoRow, standIns := [], harness := (true, "1b5a4950535dfabff4622e998bbf427c6497ba198477d4ece7662a45d391173b"), looks := true }, kinds := [], alts := [], laidByText := true, laidKinds := [.data, .data, .data, .sentinel, .sentinel, .listed, .data], laidTests := true, laidLooks := .later }
def BaseOrderUptoCardSaid : Prop := Claim7.holds Tryz.pinned (.plain (OpenSpec.upto baseOrderSpec)) baseOrderUptoCard

/-- THE SECOND FORM's CARD OF 'droverlaw13.ProfileCounts'. -/
def profileCountsUptoCard : Claim7 := { stood := { row := profileCountsUptoRow, standIns := [], harness := (true, "1b5a4950535dfabff4622e998bbf427c6497ba198477d4ece7662a45d391173b"), looks := true }, kinds := [], alts := [], laidByText := true, laidKinds := [.data, .data, .data, .sentinel, .sentinel, .listed, .data], laidTests := true, laidLooks := .later }
def ProfileCountsUptoCardSaid : Prop := Claim7.holds Tryz.pinned (.plain (OpenSpec.upto profileCountsSpec)) profileCountsUptoCard

/-- THE SECOND FORM's CARD OF 'droverlaw16.TierKinds'. -/
def tierKindsUptoCard : Claim7 := { stood := { row := tierKindsUptoRow, standIns := [], harness := (true, "1b5a4950535dfabff4622e998bbf427c6497ba198477d4ece7662a45d391173b"), looks := true }, kinds := [], alts := [], laidByText := true, laidKinds := [.data, .data, .data, .sentinel, .sentinel, .listed, .data], laidTests := true, laidLooks := .later }
def TierKindsUptoCardSaid : Prop := Claim7.holds Tryz.pinned (.plain (OpenSpec.upto tierKindsSpec)) tierKindsUptoCard

/-- THE SECOND FORM's CARD OF 'droverlaw25.ModelTraps'. -/
def modelTrapsUptoCard : Claim7 := { stood := { row := modelTrapsUptoRow, standIns := [], harness := (true, "1b5a4950535dfabff4622e998bbf427c6497ba198477d4ece7662a45d391173b"), looks := true }, kinds := [], alts := [], laidByText := true, laidKinds := [.data, .data, .data, .sentinel, .sentinel, .listed, .data], laidTests := true, laidLooks := .later }
def ModelTrapsUptoCardSaid : Prop := Claim7.holds Tryz.pinned (.plain (OpenSpec.upto modelTrapsSpec)) modelTrapsUptoCard

/-- THE SECOND FORM's CARD OF 'droverlaw14.IrSums'. -/
def irSumsUptoCard : Claim7 := { stood := { row := irSumsUptoRow, standIns := [], harness := (true, "1b5a4950535dfabff4622e998bbf427c6497ba198477d4ece7662a45d391173b"), looks := true }, kinds := [], alts := [], laidByText := true, laidKinds := [.data, .data, .data, .sentinel, .sentinel, .listed, .data], laidTests := true, laidLooks := .later }
def IrSumsUptoCardSaid : Prop := Claim7.holds Tryz.pinned (.plain (OpenSpec.upto irSumsSpec)) irSumsUptoCard

/-- THE SECOND FORM's CARD OF 'droverlaw14.IrHangs'. -/
def irHangsUptoCard : Claim7 := { stood := { row := irHangsUptoRow, standIns := [], harness := (true, "1b5a4950535dfabff4622e998bbf427c6497ba198477d4ece7662a45d391173b"), looks := true }, kinds := [], alts := [], laidByText := true, laidKinds := [.data, .data, .data, .sentinel, .sentinel, .listed, .data], laidTests := true, laidLooks := .later }
def IrHangsUptoCardSaid : Prop := Claim7.holds Tryz.pinned (.plain (OpenSpec.upto irHangsSpec)) irHangsUptoCard

/-- THE SECOND FORM's CARD OF 'droverlaw14.IrNeeds'. -/
def irNeedsUptoCard : Claim7 := { stood := { row := irNeedsUptoRow, standIns := [], harness := (true, "1b5a4950535dfabff4622e998bbf427c6497ba198477d4ece7662a45d391173b"), looks := true }, kinds := [], alts := [], laidByText := true, laidKinds := [.data, .data, .data, .sentinel, .sentinel, .listed, .data], laidTests := true, laidLooks := .later }
def IrNeedsUptoCardSaid : Prop := Claim7.holds Tryz.pinned (.plain (OpenSpec.upto irNeedsSpec)) irNeedsUptoCard
end Rows
end Go.Proofs.YtaldgnccoopepaaGreatDoor
