/-
  DERIVED. GIVEN WITH THE SEED: THE CARDS: each row of YtflchelidalhnaaGreatDoorRows.lean that lists a variable, with what it lists TIED to the program's text (the seventh form; the later family's looks); each row that meets fmt, with fmt's text TOLD by the authors' own Lean function (tested against real Go, not proved from fmt's source: count such statements apart). THE CARD IS WHAT COUNTS. Prove the row's statement (the work); the ties are given (YtflchelidalhnaaGreatDoorTie.lean); close each card by the builder's one call (the guide's Derived/Test/ToyasCard.lean, 'card_holds'). Laid BY PROGRAM, IN A SANDBOX (cutbox-door.mjs). By AI agents, Wed Nov 11 2026. No macro, syntax, notation, axiom, sorry.
-/
import Derived.Test.YtflchelidalhnaaGreatDoorRows
import GoSem.ClaimSeven
namespace Go.Proofs.YtflchelidalhnaaGreatDoor
namespace Rows

/-- THE TIED CARD OF 'droverlaw12.BaseSums'. -/
def baseSumsCard : Claim7 := { stood := { row := baseSumsRow, standIns := [], harness := (true, "39d81e9c52eef60046fb82cbf3cd0208157d2f0139ff92f92b7e15b2a4fdc318"), looks := true }, kinds := [], alts := [], laidByText := true, laidKinds := [.data, .data, .data, .sentinel, .sentinel, .listed, .data], laidTests := true, laidLooks := .later }
def BaseSumsCardSaid : Prop := Claim7.holds Tryz.pinned (.plain (OpenSpec.ofChange baseSumsSpec)) baseSumsCard

/-- THE TIED CARD OF 'droverlaw12.BaseReckons'. -/
def baseReckonsCard : Claim7 := { stood := { row := baseReckonsRow, standIns := [], harness := (true, "39d81e9c52eef60046fb82cbf3cd0208157d2f0139ff92f92b7e15b2a4fdc318"), looks := true }, kinds := [], alts := [], laidByText := true, laidKinds := [.data, .data, .data, .sentinel, .sentinel, .listed, .data], laidTests := true, laidLooks := .later }
def BaseReckonsCardSaid : Prop := Claim7.holds Tryz.pinned (.plain (OpenSpec.ofChange baseReckonsSpec)) baseReckonsCard

/-- THE TIED CARD OF 'droverlaw12.BaseDeep'. -/
def baseDeepCard : Claim7 := { stood := { row := baseDeepRow, standIns := [], harness := (true, "39d81e9c52eef60046fb82cbf3cd0208157d2f0139ff92f92b7e15b2a4fdc318"), looks := true }, kinds := [], alts := [], laidByText := true, laidKinds := [.data, .data, .data, .sentinel, .sentinel, .listed, .data], laidTests := true, laidLooks := .later }
def BaseDeepCardSaid : Prop := Claim7.holds Tryz.pinned (.plain (OpenSpec.ofChange baseDeepSpec)) baseDeepCard

/-- THE TIED CARD OF 'droverlaw12.BaseOrder'. -/
def baseOrderCard : Claim7 := { stood := { row := baseOrderRow, standIns := [], harness := (true, "39d81e9c52eef60046fb82cbf3cd0208157d2f0139ff92f92b7e15b2a4fdc318"), looks := true }, kinds := [], alts := [], laidByText := true, laidKinds := [.data, .data, .data, .sentinel, .sentinel, .listed, .data], laidTests := true, laidLooks := .later }
def BaseOrderCardSaid : Prop := Claim7.holds Tryz.pinned (.plain (OpenSpec.ofChange baseOrderSpec)) baseOrderCard

/-- THE TIED CARD OF 'droverlaw13.ProfileCounts'. -/
def profileCountsCard : Claim7 := { stood := { row := profileCountsRow, standIns := [], harness := (true, "39d81e9c52eef60046fb82cbf3cd0208157d2f0139ff92f92b7e15b2a4fdc318"), looks := true }, kinds := [], alts := [], laidByText := true, laidKinds := [.data, .data, .data, .sentinel, .sentinel, .listed, .data], laidTests := true, laidLooks := .later }
def ProfileCountsCardSaid : Prop := Claim7.holds Tryz.pinned (.plain (OpenSpec.ofChange profileCountsSpec)) profileCountsCard

/-- THE TIED CARD OF 'droverlaw12.BaseSteps'. -/
def baseStepsCard : Claim7 := { stood := { row := baseStepsRow, standIns := [], harness := (true, "39d81e9c52eef60046fb82cbf3cd0208157d2f0139ff92f92b7e15b2a4fdc318"), looks := true }, kinds := [], alts := [], laidByText := true, laidKinds := [.data, .data, .data, .sentinel, .sentinel, .listed, .data], laidTests := true, laidLooks := .later }
def BaseStepsCardSaid : Prop := Claim7.holds Tryz.pinned (.plain (OpenSpec.ofChange baseStepsSpec)) baseStepsCard

/-- THE TIED CARD OF 'droverlaw13.ProfileWatches'. -/
def profileWatchesCard : Claim7 := { stood := { row := profileWatchesRow, standIns := [], harness := (true, "39d81e9c52eef60046fb82cbf3cd0208157d2f0139ff92f92b7e15b2a4fdc318"), looks := true }, kinds := [], alts := [], laidByText := true, laidKinds := [.data, .data, .data, .sentinel, .sentinel, .listed, .data], laidTests := true, laidLooks := .later }
def ProfileWatchesCardSaid : Prop := Claim7.holds Tryz.pinned (.plain (OpenSpec.ofChange profileWatchesSpec)) profileWatchesCard

/-- THE TIED CARD OF 'droverlaw13.ProfileEmpty'. -/
def profileEmptyCard : Claim7 := { stood := { row := profileEmptyRow, standIns := [], harness := (true, "39d81e9c52eef60046fb82cbf3cd0208157d2f0139ff92f92b7e15b2a4fdc318"), looks := true }, kinds := [], alts := [], laidByText := true, laidKinds := [.data, .data, .data, .sentinel, .sentinel, .listed, .data], laidTests := true, laidLooks := .later }
def ProfileEmptyCardSaid : Prop := Claim7.holds Tryz.pinned (.plain (OpenSpec.ofChange profileEmptySpec)) profileEmptyCard

/-- THE TIED CARD OF 'droverlaw19.SpaceEnds'. -/
def spaceEndsCard : Claim7 := { stood := { row := spaceEndsRow, standIns := [], harness := (true, "39d81e9c52eef60046fb82cbf3cd0208157d2f0139ff92f92b7e15b2a4fdc318"), looks := true }, kinds := [], alts := [], laidByText := true, laidKinds := [.data, .data, .data, .sentinel, .sentinel, .listed, .data], laidTests := true, laidLooks := .later }
def SpaceEndsCardSaid : Prop := Claim7.holds Tryz.pinned (.plain (OpenSpec.ofChange spaceEndsSpec)) spaceEndsCard

/-- THE TIED CARD OF 'droverlaw19.SpaceSpawns'. -/
def spaceSpawnsCard : Claim7 := { stood := { row := spaceSpawnsRow, standIns := [], harness := (true, "39d81e9c52eef60046fb82cbf3cd0208157d2f0139ff92f92b7e15b2a4fdc318"), looks := true }, kinds := [], alts := [], laidByText := true, laidKinds := [.data, .data, .data, .sentinel, .sentinel, .listed, .data], laidTests := true, laidLooks := .later }
def SpaceSpawnsCardSaid : Prop := Claim7.holds Tryz.pinned (.plain (OpenSpec.ofChange spaceSpawnsSpec)) spaceSpawnsCard

/-- THE TIED CARD OF 'droverlaw19.ActorNone'. -/
def actorNoneCard : Claim7 := { stood := { row := actorNoneRow, standIns := [], harness := (true, "39d81e9c52eef60046fb82cbf3cd0208157d2f0139ff92f92b7e15b2a4fdc318"), looks := true }, kinds := [], alts := [], laidByText := true, laidKinds := [.data, .data, .data, .sentinel, .sentinel, .listed, .data], laidTests := true, laidLooks := .later }
def ActorNoneCardSaid : Prop := Claim7.holds Tryz.pinned (.plain (OpenSpec.ofChange actorNoneSpec)) actorNoneCard

/-- THE SECOND FORM's CARD OF 'droverlaw12.BaseSums'. -/
def baseSumsUptoCard : Claim7 := { stood := { row := baseSumsUptoRow, standIns := [], harness := (true, "39d81e9c52eef60046fb82cbf3cd0208157d2f0139ff92f92b7e15b2a4fdc318"), looks := true }, kinds := [], alts := [], laidByText := true, laidKinds := [.data, .data, .data, .sentinel, .sentinel, .listed, .data], laidTests := true, laidLooks := .later }
def BaseSumsUptoCardSaid : Prop := Claim7.holds Tryz.pinned (.plain (OpenSpec.upto baseSumsSpec)) baseSumsUptoCard

/-- THE SECOND FORM's CARD OF 'droverlaw12.BaseReckons'. -/
def baseReckonsUptoCard : Claim7 := { stood := { row := baseReckonsUptoRow, standIns := [], harness := (true, "39d81e9c52eef60046fb82cbf3cd0208157d2f0139ff92f92b7e15b2a4fdc318"), looks := true }, kinds := [], alts := [], laidByText := true, laidKinds := [.data, .data, .data, .sentinel, .sentinel, .listed, .data], laidTests := true, laidLooks := .later }
def BaseReckonsUptoCardSaid : Prop := Claim7.holds Tryz.pinned (.plain (OpenSpec.upto baseReckonsSpec)) baseReckonsUptoCard

/-- THE SECOND FORM's CARD OF 'droverlaw12.BaseDeep'. -/
def baseDeepUptoCard : Claim7 := { stood := { row := baseDeepUptoRow, standIns := [], harness := (true, "39d81e9c52eef60046fb82cbf3cd0208157d2f0139ff92f92b7e15b2a4fdc318"), looks := true }, kinds := [], alts := [], laidByText := true, laidKinds := [.data, .data, .data, .sentinel, .sentinel, .listed, .data], laidTests := true, laidLooks := .later }
def BaseDeepUptoCardSaid : Prop := Claim7.holds Tryz.pinned (.plain (OpenSpec.upto baseDeepSpec)) baseDeepUptoCard

/-- THE SECOND FORM's CARD OF 'droverlaw12.BaseOrder'. -/
def baseOrderUptoCard : Claim7 := { stood := { row := baseOrderUptoRow, standIns := [], harness := (true, "39d81e9c52eef60046fb82cbf3cd0208157d2f0139ff92f92b7e15b2a4fdc318"), looks := true }, kinds := [], alts := [], laidByText := true, laidKinds := [.data, .data, .data, .sentinel, .sentinel, .listed, .data], laidTests := true, laidLooks := .later }
def BaseOrderUptoCardSaid : Prop := Claim7.holds Tryz.pinned (.plain (OpenSpec.upto baseOrderSpec)) baseOrderUptoCard

/-- THE SECOND FORM's CARD OF 'droverlaw13.ProfileCounts'. -/
def profileCountsUptoCard : Claim7 := { stood := { row := profileCountsUptoRow, standIns := [], harness := (true, "39d81e9c52eef60046fb82cbf3cd0208157d2f0139ff92f92b7e15b2a4fdc318"), looks := true }, kinds := [], alts := [], laidByText := true, laidKinds := [.data, .data, .data, .sentinel, .sentinel, .listed, .data], laidTests := true, laidLooks := .later }
def ProfileCountsUptoCardSaid : Prop := Claim7.holds Tryz.pinned (.plain (OpenSpec.upto profileCountsSpec)) profileCountsUptoCard

/-- THE SECOND FORM's CARD OF 'droverlaw12.BaseSteps'. -/
def baseStepsUptoCard : Claim7 := { stood := { row := baseStepsUptoRow, standIns := [], harness := (true, "39d81e9c52eef60046fb82cbf3cd0208157d2f0139ff92f92b7e15b2a4fdc318"), looks := true }, kinds := [], alts := [], laidByText := true, laidKinds := [.data, .data, .data, .sentinel, .sentinel, .listed, .data], laidTests := true, laidLooks := .later }
def BaseStepsUptoCardSaid : Prop := Claim7.holds Tryz.pinned (.plain (OpenSpec.upto baseStepsSpec)) baseStepsUptoCard

/-- THE SECOND FORM's CARD OF 'droverlaw13.ProfileWatches'. -/
def profileWatchesUptoCard : Claim7 := { stood := { row := profileWatchesUptoRow, standIns := [], harness := (true, "39d81e9c52eef60046fb82cbf3cd0208157d2f0139ff92f92b7e15b2a4fdc318"), looks := true }, kinds := [], alts := [], laidByText := true, laidKinds := [.data, .data, .data, .sentinel, .sentinel, .listed, .data], laidTests := true, laidLooks := .later }
def ProfileWatchesUptoCardSaid : Prop := Claim7.holds Tryz.pinned (.plain (OpenSpec.upto profileWatchesSpec)) profileWatchesUptoCard

/-- THE SECOND FORM's CARD OF 'droverlaw13.ProfileEmpty'. -/
def profileEmptyUptoCard : Claim7 := { stood := { row := profileEmptyUptoRow, standIns := [], harness := (true, "39d81e9c52eef60046fb82cbf3cd0208157d2f0139ff92f92b7e15b2a4fdc318"), looks := true }, kinds := [], alts := [], laidByText := true, laidKinds := [.data, .data, .data, .sentinel, .sentinel, .listed, .data], laidTests := true, laidLooks := .later }
def ProfileEmptyUptoCardSaid : Prop := Claim7.holds Tryz.pinned (.plain (OpenSpec.upto profileEmptySpec)) profileEmptyUptoCard

/-- THE SECOND FORM's CARD OF 'droverlaw19.SpaceEnds'. -/
def spaceEndsUptoCard : Claim7 := { stood := { row := spaceEndsUptoRow, standIns := [], harness := (true, "39d81e9c52eef60046fb82cbf3cd0208157d2f0139ff92f92b7e15b2a4fdc318"), looks := true }, kinds := [], alts := [], laidByText := true, laidKinds := [.data, .data, .data, .sentinel, .sentinel, .listed, .data], laidTests := true, laidLooks := .later }
def SpaceEndsUptoCardSaid : Prop := Claim7.holds Tryz.pinned (.plain (OpenSpec.upto spaceEndsSpec)) spaceEndsUptoCard

/-- THE SECOND FORM's CARD OF 'droverlaw19.SpaceSpawns'. -/
def spaceSpawnsUptoCard : Claim7 := { stood := { row := spaceSpawnsUptoRow, standIns := [], harness := (true, "39d81e9c52eef60046fb82cbf3cd0208157d2f0139ff92f92b7e15b2a4fdc318"), looks := true }, kinds := [], alts := [], laidByText := true, laidKinds := [.data, .data, .data, .sentinel, .sentinel, .listed, .data], laidTests := true, laidLooks := .later }
def SpaceSpawnsUptoCardSaid : Prop := Claim7.holds Tryz.pinned (.plain (OpenSpec.upto spaceSpawnsSpec)) spaceSpawnsUptoCard

/-- THE SECOND FORM's CARD OF 'droverlaw19.ActorNone'. -/
def actorNoneUptoCard : Claim7 := { stood := { row := actorNoneUptoRow, standIns := [], harness := (true, "39d81e9c52eef60046fb82cbf3cd0208157d2f0139ff92f92b7e15b2a4fdc318"), looks := true }, kinds := [], alts := [], laidByText := true, laidKinds := [.data, .data, .data, .sentinel, .sentinel, .listed, .data], laidTests := true, laidLooks := .later }
def ActorNoneUptoCardSaid : Prop := Claim7.holds Tryz.pinned (.plain (OpenSpec.upto actorNoneSpec)) actorNoneUptoCard
end Rows
end Go.Proofs.YtflchelidalhnaaGreatDoor
