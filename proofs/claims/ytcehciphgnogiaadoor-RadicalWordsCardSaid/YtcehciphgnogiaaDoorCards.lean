/-
  DERIVED. GIVEN WITH THE SEED: THE CARDS: each row of YtcehciphgnogiaaDoorRows.lean that lists a variable, with what it lists TIED to the program's text (the seventh form; the later family's looks); each row that meets fmt, with fmt's text TOLD by the authors' own Lean function (tested against real Go, not proved from fmt's source: count such statements apart). THE CARD IS WHAT COUNTS. Prove the row's statement (the work); the ties are given (YtcehciphgnogiaaDoorTie.lean); close each card by the builder's one call (the guide's Derived/Test/ToyasCard.lean, 'card_holds'). Laid BY PROGRAM, IN A SANDBOX (cutbox-door.mjs). By AI agents, Wed Nov 11 2026. No macro, syntax, notation, axiom, sorry.
-/
import Derived.Test.YtcehciphgnogiaaDoorRows
import GoSem.ClaimSeven
namespace Go.Proofs.YtcehciphgnogiaaDoor
namespace Rows

/-- THE TIED CARD OF 'cognatelaw13.RadicalWords'. -/
def radicalWordsCard : Claim7 := { stood := { row := radicalWordsRow, standIns := [], harness := (true, "e9d5cebfe80ba104e6a7239faebf48d8285e9184230334c405b6808905313ba2"), looks := true }, kinds := [], alts := [], laidByText := true, laidKinds := [.data, .pinned], laidTests := true, laidLooks := .later }
def RadicalWordsCardSaid : Prop := Claim7.holds Tryd.pinned (.plain (OpenSpec.ofChange radicalWordsSpec)) radicalWordsCard

/-- THE TIED CARD OF 'cognatelaw13.RadicalShapes'. -/
def radicalShapesCard : Claim7 := { stood := { row := radicalShapesRow, standIns := [], harness := (true, "e9d5cebfe80ba104e6a7239faebf48d8285e9184230334c405b6808905313ba2"), looks := true }, kinds := [], alts := [], laidByText := true, laidKinds := [.data, .pinned], laidTests := true, laidLooks := .later }
def RadicalShapesCardSaid : Prop := Claim7.holds Tryd.pinned (.plain (OpenSpec.ofChange radicalShapesSpec)) radicalShapesCard

/-- THE TIED CARD OF 'cognatelaw13.RadicalBack'. -/
def radicalBackCard : Claim7 := { stood := { row := radicalBackRow, standIns := [], harness := (true, "e9d5cebfe80ba104e6a7239faebf48d8285e9184230334c405b6808905313ba2"), looks := true }, kinds := [], alts := [], laidByText := true, laidKinds := [.data, .pinned], laidTests := true, laidLooks := .later }
def RadicalBackCardSaid : Prop := Claim7.holds Tryd.pinned (.plain (OpenSpec.ofChange radicalBackSpec)) radicalBackCard

/-- THE TIED CARD OF 'cognatelaw13.RadicalNames'. -/
def radicalNamesCard : Claim7 := { stood := { row := radicalNamesRow, standIns := [], harness := (true, "e9d5cebfe80ba104e6a7239faebf48d8285e9184230334c405b6808905313ba2"), looks := true }, kinds := [], alts := [], laidByText := true, laidKinds := [.data, .pinned], laidTests := true, laidLooks := .later }
def RadicalNamesCardSaid : Prop := Claim7.holds Tryd.pinned (.plain (OpenSpec.ofChange radicalNamesSpec)) radicalNamesCard

/-- THE TIED CARD OF 'cognatelaw04.PatternBack'. -/
def patternBackCard : Claim7 := { stood := { row := patternBackRow, standIns := [], harness := (true, "e9d5cebfe80ba104e6a7239faebf48d8285e9184230334c405b6808905313ba2"), looks := true }, kinds := [], alts := [], laidByText := true, laidKinds := [.data, .pinned], laidTests := true, laidLooks := .later }
def PatternBackCardSaid : Prop := Claim7.holds Tryd.pinned (.plain (OpenSpec.ofChange patternBackSpec)) patternBackCard

/-- THE TIED CARD OF 'cognatelaw04.PatternNames'. -/
def patternNamesCard : Claim7 := { stood := { row := patternNamesRow, standIns := [], harness := (true, "e9d5cebfe80ba104e6a7239faebf48d8285e9184230334c405b6808905313ba2"), looks := true }, kinds := [], alts := [], laidByText := true, laidKinds := [.data, .pinned], laidTests := true, laidLooks := .later }
def PatternNamesCardSaid : Prop := Claim7.holds Tryd.pinned (.plain (OpenSpec.ofChange patternNamesSpec)) patternNamesCard

/-- THE TIED CARD OF 'cognatelaw04.PatternTurns'. -/
def patternTurnsCard : Claim7 := { stood := { row := patternTurnsRow, standIns := [], harness := (true, "e9d5cebfe80ba104e6a7239faebf48d8285e9184230334c405b6808905313ba2"), looks := true }, kinds := [], alts := [], laidByText := true, laidKinds := [.data, .pinned], laidTests := true, laidLooks := .later }
def PatternTurnsCardSaid : Prop := Claim7.holds Tryd.pinned (.plain (OpenSpec.ofChange patternTurnsSpec)) patternTurnsCard

/-- THE TIED CARD OF 'cognatelaw17.ParadigmNames'. -/
def paradigmNamesCard : Claim7 := { stood := { row := paradigmNamesRow, standIns := [], harness := (true, "e9d5cebfe80ba104e6a7239faebf48d8285e9184230334c405b6808905313ba2"), looks := true }, kinds := [], alts := [], laidByText := true, laidKinds := [.data, .pinned], laidTests := true, laidLooks := .later }
def ParadigmNamesCardSaid : Prop := Claim7.holds Tryd.pinned (.plain (OpenSpec.ofChange paradigmNamesSpec)) paradigmNamesCard

/-- THE TIED CARD OF 'cognatelaw17.ParadigmChain'. -/
def paradigmChainCard : Claim7 := { stood := { row := paradigmChainRow, standIns := [], harness := (true, "e9d5cebfe80ba104e6a7239faebf48d8285e9184230334c405b6808905313ba2"), looks := true }, kinds := [], alts := [], laidByText := true, laidKinds := [.data, .pinned], laidTests := true, laidLooks := .later }
def ParadigmChainCardSaid : Prop := Claim7.holds Tryd.pinned (.plain (OpenSpec.ofChange paradigmChainSpec)) paradigmChainCard

/-- THE TIED CARD OF 'cognatelaw17.ParadigmFind'. -/
def paradigmFindCard : Claim7 := { stood := { row := paradigmFindRow, standIns := [], harness := (true, "e9d5cebfe80ba104e6a7239faebf48d8285e9184230334c405b6808905313ba2"), looks := true }, kinds := [], alts := [], laidByText := true, laidKinds := [.data, .pinned], laidTests := true, laidLooks := .later }
def ParadigmFindCardSaid : Prop := Claim7.holds Tryd.pinned (.plain (OpenSpec.ofChange paradigmFindSpec)) paradigmFindCard

/-- THE TIED CARD OF 'cognatelaw17.ParadigmBack'. -/
def paradigmBackCard : Claim7 := { stood := { row := paradigmBackRow, standIns := [], harness := (true, "e9d5cebfe80ba104e6a7239faebf48d8285e9184230334c405b6808905313ba2"), looks := true }, kinds := [], alts := [], laidByText := true, laidKinds := [.data, .pinned], laidTests := true, laidLooks := .later }
def ParadigmBackCardSaid : Prop := Claim7.holds Tryd.pinned (.plain (OpenSpec.ofChange paradigmBackSpec)) paradigmBackCard

/-- THE TIED CARD OF 'cognatelaw05.MatchNames'. -/
def matchNamesCard : Claim7 := { stood := { row := matchNamesRow, standIns := [], harness := (true, "e9d5cebfe80ba104e6a7239faebf48d8285e9184230334c405b6808905313ba2"), looks := true }, kinds := [], alts := [], laidByText := true, laidKinds := [.data, .pinned], laidTests := true, laidLooks := .later }
def MatchNamesCardSaid : Prop := Claim7.holds Tryd.pinned (.plain (OpenSpec.ofChange matchNamesSpec)) matchNamesCard

/-- THE TIED CARD OF 'cognatelaw05.MatchBoth'. -/
def matchBothCard : Claim7 := { stood := { row := matchBothRow, standIns := [], harness := (true, "e9d5cebfe80ba104e6a7239faebf48d8285e9184230334c405b6808905313ba2"), looks := true }, kinds := [], alts := [], laidByText := true, laidKinds := [.data, .pinned], laidTests := true, laidLooks := .later }
def MatchBothCardSaid : Prop := Claim7.holds Tryd.pinned (.plain (OpenSpec.ofChange matchBothSpec)) matchBothCard

/-- THE TIED CARD OF 'cognatelaw05.MatchAll'. -/
def matchAllCard : Claim7 := { stood := { row := matchAllRow, standIns := [], harness := (true, "e9d5cebfe80ba104e6a7239faebf48d8285e9184230334c405b6808905313ba2"), looks := true }, kinds := [], alts := [], laidByText := true, laidKinds := [.data, .pinned], laidTests := true, laidLooks := .later }
def MatchAllCardSaid : Prop := Claim7.holds Tryd.pinned (.plain (OpenSpec.ofChange matchAllSpec)) matchAllCard

/-- THE TIED CARD OF 'cognatelaw05.MatchAround'. -/
def matchAroundCard : Claim7 := { stood := { row := matchAroundRow, standIns := [], harness := (true, "e9d5cebfe80ba104e6a7239faebf48d8285e9184230334c405b6808905313ba2"), looks := true }, kinds := [], alts := [], laidByText := true, laidKinds := [.data, .pinned], laidTests := true, laidLooks := .later }
def MatchAroundCardSaid : Prop := Claim7.holds Tryd.pinned (.plain (OpenSpec.ofChange matchAroundSpec)) matchAroundCard

/-- THE TIED CARD OF 'cognatelaw17.ParadigmTwins'. -/
def paradigmTwinsCard : Claim7 := { stood := { row := paradigmTwinsRow, standIns := [], harness := (true, "e9d5cebfe80ba104e6a7239faebf48d8285e9184230334c405b6808905313ba2"), looks := true }, kinds := [], alts := [], laidByText := true, laidKinds := [.data, .pinned], laidTests := true, laidLooks := .later }
def ParadigmTwinsCardSaid : Prop := Claim7.holds Tryd.pinned (.plain (OpenSpec.ofChange paradigmTwinsSpec)) paradigmTwinsCard

/-- THE SECOND FORM's CARD OF 'cognatelaw13.RadicalWords'. -/
def radicalWordsUptoCard : Claim7 := { stood := { row := radicalWordsUptoRow, standIns := [], harness := (true, "e9d5cebfe80ba104e6a7239faebf48d8285e9184230334c405b6808905313ba2"), looks := true }, kinds := [], alts := [], laidByText := true, laidKinds := [.data, .pinned], laidTests := true, laidLooks := .later }
def RadicalWordsUptoCardSaid : Prop := Claim7.holds Tryd.pinned (.plain (OpenSpec.upto radicalWordsSpec)) radicalWordsUptoCard

/-- THE SECOND FORM's CARD OF 'cognatelaw13.RadicalShapes'. -/
def radicalShapesUptoCard : Claim7 := { stood := { row := radicalShapesUptoRow, standIns := [], harness := (true, "e9d5cebfe80ba104e6a7239faebf48d8285e9184230334c405b6808905313ba2"), looks := true }, kinds := [], alts := [], laidByText := true, laidKinds := [.data, .pinned], laidTests := true, laidLooks := .later }
def RadicalShapesUptoCardSaid : Prop := Claim7.holds Tryd.pinned (.plain (OpenSpec.upto radicalShapesSpec)) radicalShapesUptoCard

/-- THE SECOND FORM's CARD OF 'cognatelaw13.RadicalBack'. -/
def radicalBackUptoCard : Claim7 := { stood := { row := radicalBackUptoRow, standIns := [], harness := (true, "e9d5cebfe80ba104e6a7239faebf48d8285e9184230334c405b6808905313ba2"), looks := true }, kinds := [], alts := [], laidByText := true, laidKinds := [.data, .pinned], laidTests := true, laidLooks := .later }
def RadicalBackUptoCardSaid : Prop := Claim7.holds Tryd.pinned (.plain (OpenSpec.upto radicalBackSpec)) radicalBackUptoCard

/-- THE SECOND FORM's CARD OF 'cognatelaw13.RadicalNames'. -/
def radicalNamesUptoCard : Claim7 := { stood := { row := radicalNamesUptoRow, standIns := [], harness := (true, "e9d5cebfe80ba104e6a7239faebf48d8285e9184230334c405b6808905313ba2"), looks := true }, kinds := [], alts := [], laidByText := true, laidKinds := [.data, .pinned], laidTests := true, laidLooks := .later }
def RadicalNamesUptoCardSaid : Prop := Claim7.holds Tryd.pinned (.plain (OpenSpec.upto radicalNamesSpec)) radicalNamesUptoCard

/-- THE SECOND FORM's CARD OF 'cognatelaw04.PatternBack'. -/
def patternBackUptoCard : Claim7 := { stood := { row := patternBackUptoRow, standIns := [], harness := (true, "e9d5cebfe80ba104e6a7239faebf48d8285e9184230334c405b6808905313ba2"), looks := true }, kinds := [], alts := [], laidByText := true, laidKinds := [.data, .pinned], laidTests := true, laidLooks := .later }
def PatternBackUptoCardSaid : Prop := Claim7.holds Tryd.pinned (.plain (OpenSpec.upto patternBackSpec)) patternBackUptoCard

/-- THE SECOND FORM's CARD OF 'cognatelaw04.PatternNames'. -/
def patternNamesUptoCard : Claim7 := { stood := { row := patternNamesUptoRow, standIns := [], harness := (true, "e9d5cebfe80ba104e6a7239faebf48d8285e9184230334c405b6808905313ba2"), looks := true }, kinds := [], alts := [], laidByText := true, laidKinds := [.data, .pinned], laidTests := true, laidLooks := .later }
def PatternNamesUptoCardSaid : Prop := Claim7.holds Tryd.pinned (.plain (OpenSpec.upto patternNamesSpec)) patternNamesUptoCard

/-- THE SECOND FORM's CARD OF 'cognatelaw04.PatternTurns'. -/
def patternTurnsUptoCard : Claim7 := { stood := { row := patternTurnsUptoRow, standIns := [], harness := (true, "e9d5cebfe80ba104e6a7239faebf48d8285e9184230334c405b6808905313ba2"), looks := true }, kinds := [], alts := [], laidByText := true, laidKinds := [.data, .pinned], laidTests := true, laidLooks := .later }
def PatternTurnsUptoCardSaid : Prop := Claim7.holds Tryd.pinned (.plain (OpenSpec.upto patternTurnsSpec)) patternTurnsUptoCard

/-- THE SECOND FORM's CARD OF 'cognatelaw17.ParadigmNames'. -/
def paradigmNamesUptoCard : Claim7 := { stood := { row := paradigmNamesUptoRow, standIns := [], harness := (true, "e9d5cebfe80ba104e6a7239faebf48d8285e9184230334c405b6808905313ba2"), looks := true }, kinds := [], alts := [], laidByText := true, laidKinds := [.data, .pinned], laidTests := true, laidLooks := .later }
def ParadigmNamesUptoCardSaid : Prop := Claim7.holds Tryd.pinned (.plain (OpenSpec.upto paradigmNamesSpec)) paradigmNamesUptoCard

/-- THE SECOND FORM's CARD OF 'cognatelaw17.ParadigmChain'. -/
def paradigmChainUptoCard : Claim7 := { stood := { row := paradigmChainUptoRow, standIns := [], harness := (true, "e9d5cebfe80ba104e6a7239faebf48d8285e9184230334c405b6808905313ba2"), looks := true }, kinds := [], alts := [], laidByText := true, laidKinds := [.data, .pinned], laidTests := true, laidLooks := .later }
def ParadigmChainUptoCardSaid : Prop := Claim7.holds Tryd.pinned (.plain (OpenSpec.upto paradigmChainSpec)) paradigmChainUptoCard

/-- THE SECOND FORM's CARD OF 'cognatelaw17.ParadigmFind'. -/
def paradigmFindUptoCard : Claim7 := { stood := { row := paradigmFindUptoRow, standIns := [], harness := (true, "e9d5cebfe80ba104e6a7239faebf48d8285e9184230334c405b6808905313ba2"), looks := true }, kinds := [], alts := [], laidByText := true, laidKinds := [.data, .pinned], laidTests := true, laidLooks := .later }
def ParadigmFindUptoCardSaid : Prop := Claim7.holds Tryd.pinned (.plain (OpenSpec.upto paradigmFindSpec)) paradigmFindUptoCard

/-- THE SECOND FORM's CARD OF 'cognatelaw17.ParadigmBack'. -/
def paradigmBackUptoCard : Claim7 := { stood := { row := paradigmBackUptoRow, standIns := [], harness := (true, "e9d5cebfe80ba104e6a7239faebf48d8285e9184230334c405b6808905313ba2"), looks := true }, kinds := [], alts := [], laidByText := true, laidKinds := [.data, .pinned], laidTests := true, laidLooks := .later }
def ParadigmBackUptoCardSaid : Prop := Claim7.holds Tryd.pinned (.plain (OpenSpec.upto paradigmBackSpec)) paradigmBackUptoCard

/-- THE SECOND FORM's CARD OF 'cognatelaw05.MatchNames'. -/
def matchNamesUptoCard : Claim7 := { stood := { row := matchNamesUptoRow, standIns := [], harness := (true, "e9d5cebfe80ba104e6a7239faebf48d8285e9184230334c405b6808905313ba2"), looks := true }, kinds := [], alts := [], laidByText := true, laidKinds := [.data, .pinned], laidTests := true, laidLooks := .later }
def MatchNamesUptoCardSaid : Prop := Claim7.holds Tryd.pinned (.plain (OpenSpec.upto matchNamesSpec)) matchNamesUptoCard

/-- THE SECOND FORM's CARD OF 'cognatelaw05.MatchBoth'. -/
def matchBothUptoCard : Claim7 := { stood := { row := matchBothUptoRow, standIns := [], harness := (true, "e9d5cebfe80ba104e6a7239faebf48d8285e9184230334c405b6808905313ba2"), looks := true }, kinds := [], alts := [], laidByText := true, laidKinds := [.data, .pinned], laidTests := true, laidLooks := .later }
def MatchBothUptoCardSaid : Prop := Claim7.holds Tryd.pinned (.plain (OpenSpec.upto matchBothSpec)) matchBothUptoCard

/-- THE SECOND FORM's CARD OF 'cognatelaw05.MatchAll'. -/
def matchAllUptoCard : Claim7 := { stood := { row := matchAllUptoRow, standIns := [], harness := (true, "e9d5cebfe80ba104e6a7239faebf48d8285e9184230334c405b6808905313ba2"), looks := true }, kinds := [], alts := [], laidByText := true, laidKinds := [.data, .pinned], laidTests := true, laidLooks := .later }
def MatchAllUptoCardSaid : Prop := Claim7.holds Tryd.pinned (.plain (OpenSpec.upto matchAllSpec)) matchAllUptoCard

/-- THE SECOND FORM's CARD OF 'cognatelaw05.MatchAround'. -/
def matchAroundUptoCard : Claim7 := { stood := { row := matchAroundUptoRow, standIns := [], harness := (true, "e9d5cebfe80ba104e6a7239faebf48d8285e9184230334c405b6808905313ba2"), looks := true }, kinds := [], alts := [], laidByText := true, laidKinds := [.data, .pinned], laidTests := true, laidLooks := .later }
def MatchAroundUptoCardSaid : Prop := Claim7.holds Tryd.pinned (.plain (OpenSpec.upto matchAroundSpec)) matchAroundUptoCard

/-- THE SECOND FORM's CARD OF 'cognatelaw17.ParadigmTwins'. -/
def paradigmTwinsUptoCard : Claim7 := { stood := { row := paradigmTwinsUptoRow, standIns := [], harness := (true, "e9d5cebfe80ba104e6a7239faebf48d8285e9184230334c405b6808905313ba2"), looks := true }, kinds := [], alts := [], laidByText := true, laidKinds := [.data, .pinned], laidTests := true, laidLooks := .later }
def ParadigmTwinsUptoCardSaid : Prop := Claim7.holds Tryd.pinned (.plain (OpenSpec.upto paradigmTwinsSpec)) paradigmTwinsUptoCard
end Rows
end Go.Proofs.YtcehciphgnogiaaDoor
