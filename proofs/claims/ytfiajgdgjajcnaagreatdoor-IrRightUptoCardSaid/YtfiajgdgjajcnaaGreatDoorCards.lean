/-
  DERIVED. GIVEN WITH THE SEED: THE CARDS: each row of YtfiajgdgjajcnaaGreatDoorRows.lean that lists a variable, with what it lists TIED to the program's text (the seventh form; the later family's looks); each row that meets fmt, with fmt's text TOLD by the authors' own Lean function (tested against real Go, not proved from fmt's source: count such statements apart). THE CARD IS WHAT COUNTS. Prove the row's statement (the work); the ties are given (YtfiajgdgjajcnaaGreatDoorTie.lean); close each card by the builder's one call (the guide's Derived/Test/ToyasCard.lean, 'card_holds'). Laid BY PROGRAM, IN A SANDBOX (cutbox-door.mjs). By AI agents, Wed Nov 11 2026. No macro, syntax, notation, axiom, sorry.
-/
import Derived.Test.YtfiajgdgjajcnaaGreatDoorRows
import GoSem.ClaimSeven
namespace Go.Proofs.YtfiajgdgjajcnaaGreatDoor
namespace Rows

/-- THE TIED CARD OF 'droverlaw12.BaseSums'. -/
def baseSumsCard : Claim7 := { stood := { row := baseSumsRow, standIns := [], harness := (true, "28f16fcb5e73928c1a5dc4fc370e777bae5314c9276ccde989f0e260621a9929"), looks := true }, kinds := [], alts := [], laidByText := true, laidKinds := [.data, .data, .data, .sentinel, .sentinel, .listed, .data], laidTests := true, laidLooks := .later }
def BaseSumsCardSaid : Prop := Claim7.holds Tryz.pinned (.plain (OpenSpec.ofChange baseSumsSpec)) baseSumsCard

/-- THE TIED CARD OF 'droverlaw13.ProfileCounts'. -/
def profileCountsCard : Claim7 := { stood := { row := profileCountsRow, standIns := [], harness := (true, "28f16fcb5e73928c1a5dc4fc370e777bae5314c9276ccde989f0e260621a9929"), looks := true }, kinds := [], alts := [], laidByText := true, laidKinds := [.data, .data, .data, .sentinel, .sentinel, .listed, .data], laidTests := true, laidLooks := .later }
def ProfileCountsCardSaid : Prop := Claim7.holds Tryz.pinned (.plain (OpenSpec.ofChange profileCountsSpec)) profileCountsCard

/-- THE TIED CARD OF 'droverlaw12.BaseSteps'. -/
def baseStepsCard : Claim7 := { stood := { row := baseStepsRow, standIns := [], harness := (true, "28f16fcb5e73928c1a5dc4fc370e777bae5314c9276ccde989f0e260621a9929"), looks := true }, kinds := [], alts := [], laidByText := true, laidKinds := [.data, .data, .data, .sentinel, .sentinel, .listed, .data], laidTests := true, laidLooks := .later }
def BaseStepsCardSaid : Prop := Claim7.holds Tryz.pinned (.plain (OpenSpec.ofChange baseStepsSpec)) baseStepsCard

/-- THE TIED CARD OF 'droverlaw13.ProfileWatches'. -/
def profileWatchesCard : Claim7 := { stood := { row := profileWatchesRow, standIns := [], harness := (true, "28f16fcb5e73928c1a5dc4fc370e777bae5314c9276ccde989f0e260621a9929"), looks := true }, kinds := [], alts := [], laidByText := true, laidKinds := [.data, .data, .data, .sentinel, .sentinel, .listed, .data], laidTests := true, laidLooks := .later }
def ProfileWatchesCardSaid : Prop := Claim7.holds Tryz.pinned (.plain (OpenSpec.ofChange profileWatchesSpec)) profileWatchesCard

/-- THE TIED CARD OF 'droverlaw13.ProfileEmpty'. -/
def profileEmptyCard : Claim7 := { stood := { row := profileEmptyRow, standIns := [], harness := (true, "28f16fcb5e73928c1a5dc4fc370e777bae5314c9276ccde989f0e260621a9929"), looks := true }, kinds := [], alts := [], laidByText := true, laidKinds := [.data, .data, .data, .sentinel, .sentinel, .listed, .data], laidTests := true, laidLooks := .later }
def ProfileEmptyCardSaid : Prop := Claim7.holds Tryz.pinned (.plain (OpenSpec.ofChange profileEmptySpec)) profileEmptyCard

/-- THE TIED CARD OF 'droverlaw14.IrRight'. -/
def irRightCard : Claim7 := { stood := { row := irRightRow, standIns := [], harness := (true, "28f16fcb5e73928c1a5dc4fc370e777bae5314c9276ccde989f0e260621a9929"), looks := true }, kinds := [], alts := [], laidByText := true, laidKinds := [.data, .data, .data, .sentinel, .sentinel, .listed, .data], laidTests := true, laidLooks := .later }
def IrRightCardSaid : Prop := Claim7.holds Tryz.pinned (.plain (OpenSpec.ofChange irRightSpec)) irRightCard

/-- THE TIED CARD OF 'droverlaw15.OptDepths'. -/
def optDepthsCard : Claim7 := { stood := { row := optDepthsRow, standIns := [], harness := (true, "28f16fcb5e73928c1a5dc4fc370e777bae5314c9276ccde989f0e260621a9929"), looks := true }, kinds := [], alts := [], laidByText := true, laidKinds := [.data, .data, .data, .sentinel, .sentinel, .listed, .data], laidTests := true, laidLooks := .later }
def OptDepthsCardSaid : Prop := Claim7.holds Tryz.pinned (.plain (OpenSpec.ofChange optDepthsSpec)) optDepthsCard

/-- THE TIED CARD OF 'droverlaw19.SpaceEnds'. -/
def spaceEndsCard : Claim7 := { stood := { row := spaceEndsRow, standIns := [], harness := (true, "28f16fcb5e73928c1a5dc4fc370e777bae5314c9276ccde989f0e260621a9929"), looks := true }, kinds := [], alts := [], laidByText := true, laidKinds := [.data, .data, .data, .sentinel, .sentinel, .listed, .data], laidTests := true, laidLooks := .later }
def SpaceEndsCardSaid : Prop := Claim7.holds Tryz.pinned (.plain (OpenSpec.ofChange spaceEndsSpec)) spaceEndsCard

/-- THE TIED CARD OF 'droverlaw19.SpaceSpawns'. -/
def spaceSpawnsCard : Claim7 := { stood := { row := spaceSpawnsRow, standIns := [], harness := (true, "28f16fcb5e73928c1a5dc4fc370e777bae5314c9276ccde989f0e260621a9929"), looks := true }, kinds := [], alts := [], laidByText := true, laidKinds := [.data, .data, .data, .sentinel, .sentinel, .listed, .data], laidTests := true, laidLooks := .later }
def SpaceSpawnsCardSaid : Prop := Claim7.holds Tryz.pinned (.plain (OpenSpec.ofChange spaceSpawnsSpec)) spaceSpawnsCard

/-- THE TIED CARD OF 'droverlaw19.ActorNone'. -/
def actorNoneCard : Claim7 := { stood := { row := actorNoneRow, standIns := [], harness := (true, "28f16fcb5e73928c1a5dc4fc370e777bae5314c9276ccde989f0e260621a9929"), looks := true }, kinds := [], alts := [], laidByText := true, laidKinds := [.data, .data, .data, .sentinel, .sentinel, .listed, .data], laidTests := true, laidLooks := .later }
def ActorNoneCardSaid : Prop := Claim7.holds Tryz.pinned (.plain (OpenSpec.ofChange actorNoneSpec)) actorNoneCard

/-- THE TIED CARD OF 'droverlaw16.TierKinds'. -/
def tierKindsCard : Claim7 := { stood := { row := tierKindsRow, standIns := [], harness := (true, "28f16fcb5e73928c1a5dc4fc370e777bae5314c9276ccde989f0e260621a9929"), looks := true }, kinds := [], alts := [], laidByText := true, laidKinds := [.data, .data, .data, .sentinel, .sentinel, .listed, .data], laidTests := true, laidLooks := .later }
def TierKindsCardSaid : Prop := Claim7.holds Tryz.pinned (.plain (OpenSpec.ofChange tierKindsSpec)) tierKindsCard

/-- THE TIED CARD OF 'droverlaw15.OptPlain'. -/
def optPlainCard : Claim7 := { stood := { row := optPlainRow, standIns := [], harness := (true, "28f16fcb5e73928c1a5dc4fc370e777bae5314c9276ccde989f0e260621a9929"), looks := true }, kinds := [], alts := [], laidByText := true, laidKinds := [.data, .data, .data, .sentinel, .sentinel, .listed, .data], laidTests := true, laidLooks := .later }
def OptPlainCardSaid : Prop := Claim7.holds Tryz.pinned (.plain (OpenSpec.ofChange optPlainSpec)) optPlainCard

/-- THE SECOND FORM's CARD OF 'droverlaw12.BaseSums'. -/
def baseSumsUptoCard : Claim7 := { stood := { row := baseSumsUptoRow, standIns := [], harness := (true, "28f16fcb5e73928c1a5dc4fc370e777bae5314c9276ccde989f0e260621a9929"), looks := true }, kinds := [], alts := [], laidByText := true, laidKinds := [.data, .data, .data, .sentinel, .sentinel, .listed, .data], laidTests := true, laidLooks := .later }
def BaseSumsUptoCardSaid : Prop := Claim7.holds Tryz.pinned (.plain (OpenSpec.upto baseSumsSpec)) baseSumsUptoCard

/-- THE SECOND FORM's CARD OF 'droverlaw13.ProfileCounts'. -/
def profileCountsUptoCard : Claim7 := { stood := { row := profileCountsUptoRow, standIns := [], harness := (true, "28f16fcb5e73928c1a5dc4fc370e777bae5314c9276ccde989f0e260621a9929"), looks := true }, kinds := [], alts := [], laidByText := true, laidKinds := [.data, .data, .data, .sentinel, .sentinel, .listed, .data], laidTests := true, laidLooks := .later }
def ProfileCountsUptoCardSaid : Prop := Claim7.holds Tryz.pinned (.plain (OpenSpec.upto profileCountsSpec)) profileCountsUptoCard

/-- THE SECOND FORM's CARD OF 'droverlaw12.BaseSteps'. -/
def baseStepsUptoCard : Claim7 := { stood := { row := baseStepsUptoRow, standIns := [], harness := (true, "28f16fcb5e73928c1a5dc4fc370e777bae5314c9276ccde989f0e260621a9929"), looks := true }, kinds := [], alts := [], laidByText := true, laidKinds := [.data, .data, .data, .sentinel, .sentinel, .listed, .data], laidTests := true, laidLooks := .later }
def BaseStepsUptoCardSaid : Prop := Claim7.holds Tryz.pinned (.plain (OpenSpec.upto baseStepsSpec)) baseStepsUptoCard

/-- THE SECOND FORM's CARD OF 'droverlaw13.ProfileWatches'. -/
def profileWatchesUptoCard : Claim7 := { stood := { row := profileWatchesUptoRow, standIns := [], harness := (true, "28f16fcb5e73928c1a5dc4fc370e777bae5314c9276ccde989f0e260621a9929"), looks := true }, kinds := [], alts := [], laidByText := true, laidKinds := [.data, .data, .data, .sentinel, .sentinel, .listed, .data], laidTests := true, laidLooks := .later }
def ProfileWatchesUptoCardSaid : Prop := Claim7.holds Tryz.pinned (.plain (OpenSpec.upto profileWatchesSpec)) profileWatchesUptoCard

/-- THE SECOND FORM's CARD OF 'droverlaw13.ProfileEmpty'. -/
def profileEmptyUptoCard : Claim7 := { stood := { row := profileEmptyUptoRow, standIns := [], harness := (true, "28f16fcb5e73928c1a5dc4fc370e777bae5314c9276ccde989f0e260621a9929"), looks := true }, kinds := [], alts := [], laidByText := true, laidKinds := [.data, .data, .data, .sentinel, .sentinel, .listed, .data], laidTests := true, laidLooks := .later }
def ProfileEmptyUptoCardSaid : Prop := Claim7.holds Tryz.pinned (.plain (OpenSpec.upto profileEmptySpec)) profileEmptyUptoCard

/-- THE SECOND FORM's CARD OF 'droverlaw14.IrRight'. -/
def irRightUptoCard : Claim7 := { stood := { row := irRightUptoRow, standIns := [], harness := (true, "28f16fcb5e73928c1a5dc4fc370e777bae5314c9276ccde989f0e260621a9929"), looks := true }, kinds := [], alts := [], laidByText := true, laidKinds := [.data, .data, .data, .sentinel, .sentinel, .listed, .data], laidTests := true, laidLooks := .later }
def IrRightUptoCardSaid : Prop := Claim7.holds Tryz.pinned (.plain (OpenSpec.upto irRightSpec)) irRightUptoCard

/-- THE SECOND FORM's CARD OF 'droverlaw15.OptDepths'. -/
def optDepthsUptoCard : Claim7 := { stood := { row := optDepthsUptoRow, standIns := [], harness := (true, "28f16fcb5e73928c1a5dc4fc370e777bae5314c9276ccde989f0e260621a9929"), looks := true }, kinds := [], alts := [], laidByText := true, laidKinds := [.data, .data, .data, .sentinel, .sentinel, .listed, .data], laidTests := true, laidLooks := .later }
def OptDepthsUptoCardSaid : Prop := Claim7.holds Tryz.pinned (.plain (OpenSpec.upto optDepthsSpec)) optDepthsUptoCard

/-- THE SECOND FORM's CARD OF 'droverlaw19.SpaceEnds'. -/
def spaceEndsUptoCard : Claim7 := { stood := { row := spaceEndsUptoRow, standIns := [], harness := (true, "28f16fcb5e73928c1a5dc4fc370e777bae5314c9276ccde989f0e260621a9929"), looks := true }, kinds := [], alts := [], laidByText := true, laidKinds := [.data, .data, .data, .sentinel, .sentinel, .listed, .data], laidTests := true, laidLooks := .later }
def SpaceEndsUptoCardSaid : Prop := Claim7.holds Tryz.pinned (.plain (OpenSpec.upto spaceEndsSpec)) spaceEndsUptoCard

/-- THE SECOND FORM's CARD OF 'droverlaw19.SpaceSpawns'. -/
def spaceSpawnsUptoCard : Claim7 := { stood := { row := spaceSpawnsUptoRow, standIns := [], harness := (true, "28f16fcb5e73928c1a5dc4fc370e777bae5314c9276ccde989f0e260621a9929"), looks := true }, kinds := [], alts := [], laidByText := true, laidKinds := [.data, .data, .data, .sentinel, .sentinel, .listed, .data], laidTests := true, laidLooks := .later }
def SpaceSpawnsUptoCardSaid : Prop := Claim7.holds Tryz.pinned (.plain (OpenSpec.upto spaceSpawnsSpec)) spaceSpawnsUptoCard

/-- THE SECOND FORM's CARD OF 'droverlaw19.ActorNone'. -/
def actorNoneUptoCard : Claim7 := { stood := { row := actorNoneUptoRow, standIns := [], harness := (true, "28f16fcb5e73928c1a5dc4fc370e777bae5314c9276ccde989f0e260621a9929"), looks := true }, kinds := [], alts := [], laidByText := true, laidKinds := [.data, .data, .data, .sentinel, .sentinel, .listed, .data], laidTests := true, laidLooks := .later }
def ActorNoneUptoCardSaid : Prop := Claim7.holds Tryz.pinned (.plain (OpenSpec.upto actorNoneSpec)) actorNoneUptoCard

/-- THE SECOND FORM's CARD OF 'droverlaw16.TierKinds'. -/
def tierKindsUptoCard : Claim7 := { stood := { row := tierKindsUptoRow, standIns := [], harness := (true, "28f16fcb5e73928c1a5dc4fc370e777bae5314c9276ccde989f0e260621a9929"), looks := true }, kinds := [], alts := [], laidByText := true, laidKinds := [.data, .data, .data, .sentinel, .sentinel, .listed, .data], laidTests := true, laidLooks := .later }
def TierKindsUptoCardSaid : Prop := Claim7.holds Tryz.pinned (.plain (OpenSpec.upto tierKindsSpec)) tierKindsUptoCard

/-- THE SECOND FORM's CARD OF 'droverlaw15.OptPlain'. -/
def optPlainUptoCard : Claim7 := { stood := { row := optPlainUptoRow, standIns := [], harness := (true, "28f16fcb5e73928c1a5dc4fc370e777bae5314c9276ccde989f0e260621a9929"), looks := true }, kinds := [], alts := [], laidByText := true, laidKinds := [.data, .data, .data, .sentinel, .sentinel, .listed, .data], laidTests := true, laidLooks := .later }
def OptPlainUptoCardSaid : Prop := Claim7.holds Tryz.pinned (.plain (OpenSpec.upto optPlainSpec)) optPlainUptoCard
end Rows
end Go.Proofs.YtfiajgdgjajcnaaGreatDoor
