/-
  DERIVED. GIVEN WITH THE SEED: THE CARDS: each row of YteahgkijaehobaaDoorRows.lean that lists a variable, with what it lists TIED to the program's text (the seventh form; the later family's looks); each row that meets fmt, with fmt's text TOLD by the authors' own Lean function (tested against real Go, not proved from fmt's source: count such statements apart). THE CARD IS WHAT COUNTS. Prove the row's statement (the work); the ties are given (YteahgkijaehobaaDoorTie.lean); close each card by the builder's one call (the guide's Derived/Test/ToyasCard.lean, 'card_holds'). Laid BY PROGRAM, IN A SANDBOX (cutbox-door.mjs). By AI agents, Wed Nov 11 2026. No macro, syntax, notation, axiom, sorry.
-/
import Derived.Test.YteahgkijaehobaaDoorRows
import GoSem.ClaimSeven
namespace Go.Proofs.YteahgkijaehobaaDoor
namespace Rows

/-- THE TIED CARD OF 'laws.FnExactCanTurn'. -/
def fnExactCanTurnCard : Claim7 := { stood := { row := fnExactCanTurnRow, standIns := [], harness := (true, "f064707528b5d4a365a43059d6bbafa334d52ae0647efa482587c4e5c15cadc7"), looks := false }, kinds := [], alts := [], laidByText := true, laidKinds := [.data, .pinned], laidTests := true, laidLooks := .later }
def FnExactCanTurnCardSaid : Prop := Claim7.holds Tryd.pinned (.plain (OpenSpec.ofChange fnExactCanTurnSpec)) fnExactCanTurnCard

/-- THE TIED CARD OF 'laws.FnExactValidList'. -/
def fnExactValidListCard : Claim7 := { stood := { row := fnExactValidListRow, standIns := [], harness := (true, "f064707528b5d4a365a43059d6bbafa334d52ae0647efa482587c4e5c15cadc7"), looks := false }, kinds := [], alts := [], laidByText := true, laidKinds := [.data, .pinned], laidTests := true, laidLooks := .later }
def FnExactValidListCardSaid : Prop := Claim7.holds Tryd.pinned (.plain (OpenSpec.ofChange fnExactValidListSpec)) fnExactValidListCard

/-- THE TIED CARD OF 'laws.FnExactWornOf'. -/
def fnExactWornOfCard : Claim7 := { stood := { row := fnExactWornOfRow, standIns := [], harness := (true, "f064707528b5d4a365a43059d6bbafa334d52ae0647efa482587c4e5c15cadc7"), looks := false }, kinds := [], alts := [], laidByText := true, laidKinds := [.data, .pinned], laidTests := true, laidLooks := .later }
def FnExactWornOfCardSaid : Prop := Claim7.holds Tryd.pinned (.plain (OpenSpec.ofChange fnExactWornOfSpec)) fnExactWornOfCard

/-- THE TIED CARD OF 'laws.FnExactTurnText'. -/
def fnExactTurnTextCard : Claim7 := { stood := { row := fnExactTurnTextRow, standIns := [], harness := (true, "f064707528b5d4a365a43059d6bbafa334d52ae0647efa482587c4e5c15cadc7"), looks := false }, kinds := [], alts := [], laidByText := true, laidKinds := [.data, .pinned], laidTests := true, laidLooks := .later }
def FnExactTurnTextCardSaid : Prop := Claim7.holds Tryd.pinned (.plain (OpenSpec.ofChange fnExactTurnTextSpec)) fnExactTurnTextCard

/-- THE TIED CARD OF 'laws.FnExactValidPieces'. -/
def fnExactValidPiecesCard : Claim7 := { stood := { row := fnExactValidPiecesRow, standIns := [], harness := (true, "f064707528b5d4a365a43059d6bbafa334d52ae0647efa482587c4e5c15cadc7"), looks := false }, kinds := [], alts := [], laidByText := true, laidKinds := [.data, .pinned], laidTests := true, laidLooks := .later }
def FnExactValidPiecesCardSaid : Prop := Claim7.holds Tryd.pinned (.plain (OpenSpec.ofChange fnExactValidPiecesSpec)) fnExactValidPiecesCard

/-- THE TIED CARD OF 'laws.FnExactJoinAll'. -/
def fnExactJoinAllCard : Claim7 := { stood := { row := fnExactJoinAllRow, standIns := [], harness := (true, "f064707528b5d4a365a43059d6bbafa334d52ae0647efa482587c4e5c15cadc7"), looks := false }, kinds := [], alts := [], laidByText := true, laidKinds := [.data, .pinned], laidTests := true, laidLooks := .later }
def FnExactJoinAllCardSaid : Prop := Claim7.holds Tryd.pinned (.plain (OpenSpec.ofChange fnExactJoinAllSpec)) fnExactJoinAllCard

/-- THE TIED CARD OF 'laws.FnExactMatchWorn'. -/
def fnExactMatchWornCard : Claim7 := { stood := { row := fnExactMatchWornRow, standIns := [], harness := (true, "f064707528b5d4a365a43059d6bbafa334d52ae0647efa482587c4e5c15cadc7"), looks := false }, kinds := [], alts := [], laidByText := true, laidKinds := [.data, .pinned], laidTests := true, laidLooks := .later }
def FnExactMatchWornCardSaid : Prop := Claim7.holds Tryd.pinned (.plain (OpenSpec.ofChange fnExactMatchWornSpec)) fnExactMatchWornCard

/-- THE TIED CARD OF 'laws.FnExactCutAgain'. -/
def fnExactCutAgainCard : Claim7 := { stood := { row := fnExactCutAgainRow, standIns := [], harness := (true, "f064707528b5d4a365a43059d6bbafa334d52ae0647efa482587c4e5c15cadc7"), looks := false }, kinds := [], alts := [], laidByText := true, laidKinds := [.data, .pinned], laidTests := true, laidLooks := .later }
def FnExactCutAgainCardSaid : Prop := Claim7.holds Tryd.pinned (.plain (OpenSpec.ofChange fnExactCutAgainSpec)) fnExactCutAgainCard

/-- THE TIED CARD OF 'laws.FnExactJoinsOf'. -/
def fnExactJoinsOfCard : Claim7 := { stood := { row := fnExactJoinsOfRow, standIns := [], harness := (true, "f064707528b5d4a365a43059d6bbafa334d52ae0647efa482587c4e5c15cadc7"), looks := false }, kinds := [], alts := [], laidByText := true, laidKinds := [.data, .pinned], laidTests := true, laidLooks := .later }
def FnExactJoinsOfCardSaid : Prop := Claim7.holds Tryd.pinned (.plain (OpenSpec.ofChange fnExactJoinsOfSpec)) fnExactJoinsOfCard

/-- THE TIED CARD OF 'laws.FnExactTurnedWords'. -/
def fnExactTurnedWordsCard : Claim7 := { stood := { row := fnExactTurnedWordsRow, standIns := [], harness := (true, "f064707528b5d4a365a43059d6bbafa334d52ae0647efa482587c4e5c15cadc7"), looks := false }, kinds := [], alts := [], laidByText := true, laidKinds := [.data, .pinned], laidTests := true, laidLooks := .later }
def FnExactTurnedWordsCardSaid : Prop := Claim7.holds Tryd.pinned (.plain (OpenSpec.ofChange fnExactTurnedWordsSpec)) fnExactTurnedWordsCard

/-- THE TIED CARD OF 'laws.FnExactLongestRow'. -/
def fnExactLongestRowCard : Claim7 := { stood := { row := fnExactLongestRowRow, standIns := [], harness := (true, "f064707528b5d4a365a43059d6bbafa334d52ae0647efa482587c4e5c15cadc7"), looks := false }, kinds := [], alts := [], laidByText := true, laidKinds := [.data, .pinned], laidTests := true, laidLooks := .later }
def FnExactLongestRowCardSaid : Prop := Claim7.holds Tryd.pinned (.plain (OpenSpec.ofChange fnExactLongestRowSpec)) fnExactLongestRowCard

/-- THE SECOND FORM's CARD OF 'laws.FnExactCanTurn'. -/
def fnExactCanTurnUptoCard : Claim7 := { stood := { row := fnExactCanTurnUptoRow, standIns := [], harness := (true, "f064707528b5d4a365a43059d6bbafa334d52ae0647efa482587c4e5c15cadc7"), looks := false }, kinds := [], alts := [], laidByText := true, laidKinds := [.data, .pinned], laidTests := true, laidLooks := .later }
def FnExactCanTurnUptoCardSaid : Prop := Claim7.holds Tryd.pinned (.plain (OpenSpec.upto fnExactCanTurnSpec)) fnExactCanTurnUptoCard

/-- THE SECOND FORM's CARD OF 'laws.FnExactValidList'. -/
def fnExactValidListUptoCard : Claim7 := { stood := { row := fnExactValidListUptoRow, standIns := [], harness := (true, "f064707528b5d4a365a43059d6bbafa334d52ae0647efa482587c4e5c15cadc7"), looks := false }, kinds := [], alts := [], laidByText := true, laidKinds := [.data, .pinned], laidTests := true, laidLooks := .later }
def FnExactValidListUptoCardSaid : Prop := Claim7.holds Tryd.pinned (.plain (OpenSpec.upto fnExactValidListSpec)) fnExactValidListUptoCard

/-- THE SECOND FORM's CARD OF 'laws.FnExactWornOf'. -/
def fnExactWornOfUptoCard : Claim7 := { stood := { row := fnExactWornOfUptoRow, standIns := [], harness := (true, "f064707528b5d4a365a43059d6bbafa334d52ae0647efa482587c4e5c15cadc7"), looks := false }, kinds := [], alts := [], laidByText := true, laidKinds := [.data, .pinned], laidTests := true, laidLooks := .later }
def FnExactWornOfUptoCardSaid : Prop := Claim7.holds Tryd.pinned (.plain (OpenSpec.upto fnExactWornOfSpec)) fnExactWornOfUptoCard

/-- THE SECOND FORM's CARD OF 'laws.FnExactTurnText'. -/
def fnExactTurnTextUptoCard : Claim7 := { stood := { row := fnExactTurnTextUptoRow, standIns := [], harness := (true, "f064707528b5d4a365a43059d6bbafa334d52ae0647efa482587c4e5c15cadc7"), looks := false }, kinds := [], alts := [], laidByText := true, laidKinds := [.data, .pinned], laidTests := true, laidLooks := .later }
def FnExactTurnTextUptoCardSaid : Prop := Claim7.holds Tryd.pinned (.plain (OpenSpec.upto fnExactTurnTextSpec)) fnExactTurnTextUptoCard

/-- THE SECOND FORM's CARD OF 'laws.FnExactValidPieces'. -/
def fnExactValidPiecesUptoCard : Claim7 := { stood := { row := fnExactValidPiecesUptoRow, standIns := [], harness := (true, "f064707528b5d4a365a43059d6bbafa334d52ae0647efa482587c4e5c15cadc7"), looks := false }, kinds := [], alts := [], laidByText := true, laidKinds := [.data, .pinned], laidTests := true, laidLooks := .later }
def FnExactValidPiecesUptoCardSaid : Prop := Claim7.holds Tryd.pinned (.plain (OpenSpec.upto fnExactValidPiecesSpec)) fnExactValidPiecesUptoCard

/-- THE SECOND FORM's CARD OF 'laws.FnExactJoinAll'. -/
def fnExactJoinAllUptoCard : Claim7 := { stood := { row := fnExactJoinAllUptoRow, standIns := [], harness := (true, "f064707528b5d4a365a43059d6bbafa334d52ae0647efa482587c4e5c15cadc7"), looks := false }, kinds := [], alts := [], laidByText := true, laidKinds := [.data, .pinned], laidTests := true, laidLooks := .later }
def FnExactJoinAllUptoCardSaid : Prop := Claim7.holds Tryd.pinned (.plain (OpenSpec.upto fnExactJoinAllSpec)) fnExactJoinAllUptoCard

/-- THE SECOND FORM's CARD OF 'laws.FnExactMatchWorn'. -/
def fnExactMatchWornUptoCard : Claim7 := { stood := { row := fnExactMatchWornUptoRow, standIns := [], harness := (true, "f064707528b5d4a365a43059d6bbafa334d52ae0647efa482587c4e5c15cadc7"), looks := false }, kinds := [], alts := [], laidByText := true, laidKinds := [.data, .pinned], laidTests := true, laidLooks := .later }
def FnExactMatchWornUptoCardSaid : Prop := Claim7.holds Tryd.pinned (.plain (OpenSpec.upto fnExactMatchWornSpec)) fnExactMatchWornUptoCard

/-- THE SECOND FORM's CARD OF 'laws.FnExactCutAgain'. -/
def fnExactCutAgainUptoCard : Claim7 := { stood := { row := fnExactCutAgainUptoRow, standIns := [], harness := (true, "f064707528b5d4a365a43059d6bbafa334d52ae0647efa482587c4e5c15cadc7"), looks := false }, kinds := [], alts := [], laidByText := true, laidKinds := [.data, .pinned], laidTests := true, laidLooks := .later }
def FnExactCutAgainUptoCardSaid : Prop := Claim7.holds Tryd.pinned (.plain (OpenSpec.upto fnExactCutAgainSpec)) fnExactCutAgainUptoCard

/-- THE SECOND FORM's CARD OF 'laws.FnExactJoinsOf'. -/
def fnExactJoinsOfUptoCard : Claim7 := { stood := { row := fnExactJoinsOfUptoRow, standIns := [], harness := (true, "f064707528b5d4a365a43059d6bbafa334d52ae0647efa482587c4e5c15cadc7"), looks := false }, kinds := [], alts := [], laidByText := true, laidKinds := [.data, .pinned], laidTests := true, laidLooks := .later }
def FnExactJoinsOfUptoCardSaid : Prop := Claim7.holds Tryd.pinned (.plain (OpenSpec.upto fnExactJoinsOfSpec)) fnExactJoinsOfUptoCard

/-- THE SECOND FORM's CARD OF 'laws.FnExactTurnedWords'. -/
def fnExactTurnedWordsUptoCard : Claim7 := { stood := { row := fnExactTurnedWordsUptoRow, standIns := [], harness := (true, "f064707528b5d4a365a43059d6bbafa334d52ae0647efa482587c4e5c15cadc7"), looks := false }, kinds := [], alts := [], laidByText := true, laidKinds := [.data, .pinned], laidTests := true, laidLooks := .later }
def FnExactTurnedWordsUptoCardSaid : Prop := Claim7.holds Tryd.pinned (.plain (OpenSpec.upto fnExactTurnedWordsSpec)) fnExactTurnedWordsUptoCard

/-- THE SECOND FORM's CARD OF 'laws.FnExactLongestRow'. -/
def fnExactLongestRowUptoCard : Claim7 := { stood := { row := fnExactLongestRowUptoRow, standIns := [], harness := (true, "f064707528b5d4a365a43059d6bbafa334d52ae0647efa482587c4e5c15cadc7"), looks := false }, kinds := [], alts := [], laidByText := true, laidKinds := [.data, .pinned], laidTests := true, laidLooks := .later }
def FnExactLongestRowUptoCardSaid : Prop := Claim7.holds Tryd.pinned (.plain (OpenSpec.upto fnExactLongestRowSpec)) fnExactLongestRowUptoCard
end Rows
end Go.Proofs.YteahgkijaehobaaDoor
