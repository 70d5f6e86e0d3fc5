/-
  DERIVED. GIVEN WITH THE SEED: THE CARDS: each row of YtiapaggkbhdnkaaDoorRows.lean that lists a variable, with what it lists TIED to the program's text (the seventh form; the later family's looks); each row that meets fmt, with fmt's text TOLD by the authors' own Lean function (tested against real Go, not proved from fmt's source: count such statements apart). THE CARD IS WHAT COUNTS. Prove the row's statement (the work); the ties are given (YtiapaggkbhdnkaaDoorTie.lean); close each card by the builder's one call (the guide's Derived/Test/ToyasCard.lean, 'card_holds'). Laid BY PROGRAM, IN A SANDBOX (cutbox-door.mjs). By AI agents, Wed Nov 11 2026. No macro, syntax, notation, axiom, sorry.
-/
import Derived.Test.YtiapaggkbhdnkaaDoorRows
import GoSem.ClaimSeven
namespace Go.Proofs.YtiapaggkbhdnkaaDoor
namespace Rows

/-- THE TIED CARD OF 'laws.FnExactValidShorts'. -/
def fnExactValidShortsCard : Claim7 := { stood := { row := fnExactValidShortsRow, standIns := [], harness := (true, "49424245387de0b4d0fcc2845f30d9a685c7cdf33498e0121a56b32f76657620"), looks := false }, kinds := [], alts := [], laidByText := true, laidKinds := [.data, .pinned], laidTests := true, laidLooks := .later }
def FnExactValidShortsCardSaid : Prop := Claim7.holds Tryd.pinned (.plain (OpenSpec.ofChange fnExactValidShortsSpec)) fnExactValidShortsCard

/-- THE TIED CARD OF 'laws.FnExactShortsText'. -/
def fnExactShortsTextCard : Claim7 := { stood := { row := fnExactShortsTextRow, standIns := [], harness := (true, "49424245387de0b4d0fcc2845f30d9a685c7cdf33498e0121a56b32f76657620"), looks := false }, kinds := [], alts := [], laidByText := true, laidKinds := [.data, .pinned], laidTests := true, laidLooks := .later }
def FnExactShortsTextCardSaid : Prop := Claim7.holds Tryd.pinned (.plain (OpenSpec.ofChange fnExactShortsTextSpec)) fnExactShortsTextCard

/-- THE TIED CARD OF 'laws.FnExactReadShorts'. -/
def fnExactReadShortsCard : Claim7 := { stood := { row := fnExactReadShortsRow, standIns := [], harness := (true, "49424245387de0b4d0fcc2845f30d9a685c7cdf33498e0121a56b32f76657620"), looks := false }, kinds := [], alts := [], laidByText := true, laidKinds := [.data, .pinned], laidTests := true, laidLooks := .later }
def FnExactReadShortsCardSaid : Prop := Claim7.holds Tryd.pinned (.plain (OpenSpec.ofChange fnExactReadShortsSpec)) fnExactReadShortsCard

/-- THE TIED CARD OF 'laws.FnExactShortenAll'. -/
def fnExactShortenAllCard : Claim7 := { stood := { row := fnExactShortenAllRow, standIns := [], harness := (true, "49424245387de0b4d0fcc2845f30d9a685c7cdf33498e0121a56b32f76657620"), looks := false }, kinds := [], alts := [], laidByText := true, laidKinds := [.data, .listed, .data, .pinned], laidTests := true, laidLooks := .later }
def FnExactShortenAllCardSaid : Prop := Claim7.holds Tryd.pinned (.plain (OpenSpec.ofChange fnExactShortenAllSpec)) fnExactShortenAllCard

/-- THE TIED CARD OF 'laws.FnExactLengthenAll'. -/
def fnExactLengthenAllCard : Claim7 := { stood := { row := fnExactLengthenAllRow, standIns := [], harness := (true, "49424245387de0b4d0fcc2845f30d9a685c7cdf33498e0121a56b32f76657620"), looks := false }, kinds := [], alts := [], laidByText := true, laidKinds := [.data, .listed, .data, .pinned], laidTests := true, laidLooks := .later }
def FnExactLengthenAllCardSaid : Prop := Claim7.holds Tryd.pinned (.plain (OpenSpec.ofChange fnExactLengthenAllSpec)) fnExactLengthenAllCard

/-- THE TIED CARD OF 'laws.FnExactLinesOf'. -/
def fnExactLinesOfCard : Claim7 := { stood := { row := fnExactLinesOfRow, standIns := [], harness := (true, "49424245387de0b4d0fcc2845f30d9a685c7cdf33498e0121a56b32f76657620"), looks := false }, kinds := [], alts := [], laidByText := true, laidKinds := [.data, .listed, .data, .pinned], laidTests := true, laidLooks := .later }
def FnExactLinesOfCardSaid : Prop := Claim7.holds Tryd.pinned (.plain (OpenSpec.ofChange fnExactLinesOfSpec)) fnExactLinesOfCard

/-- THE SECOND FORM's CARD OF 'laws.FnExactValidShorts'. -/
def fnExactValidShortsUptoCard : Claim7 := { stood := { row := fnExactValidShortsUptoRow, standIns := [], harness := (true, "49424245387de0b4d0fcc2845f30d9a685c7cdf33498e0121a56b32f76657620"), looks := false }, kinds := [], alts := [], laidByText := true, laidKinds := [.data, .pinned], laidTests := true, laidLooks := .later }
def FnExactValidShortsUptoCardSaid : Prop := Claim7.holds Tryd.pinned (.plain (OpenSpec.upto fnExactValidShortsSpec)) fnExactValidShortsUptoCard

/-- THE SECOND FORM's CARD OF 'laws.FnExactShortsText'. -/
def fnExactShortsTextUptoCard : Claim7 := { stood := { row := fnExactShortsTextUptoRow, standIns := [], harness := (true, "49424245387de0b4d0fcc2845f30d9a685c7cdf33498e0121a56b32f76657620"), looks := false }, kinds := [], alts := [], laidByText := true, laidKinds := [.data, .pinned], laidTests := true, laidLooks := .later }
def FnExactShortsTextUptoCardSaid : Prop := Claim7.holds Tryd.pinned (.plain (OpenSpec.upto fnExactShortsTextSpec)) fnExactShortsTextUptoCard

/-- THE SECOND FORM's CARD OF 'laws.FnExactReadShorts'. -/
def fnExactReadShortsUptoCard : Claim7 := { stood := { row := fnExactReadShortsUptoRow, standIns := [], harness := (true, "49424245387de0b4d0fcc2845f30d9a685c7cdf33498e0121a56b32f76657620"), looks := false }, kinds := [], alts := [], laidByText := true, laidKinds := [.data, .pinned], laidTests := true, laidLooks := .later }
def FnExactReadShortsUptoCardSaid : Prop := Claim7.holds Tryd.pinned (.plain (OpenSpec.upto fnExactReadShortsSpec)) fnExactReadShortsUptoCard

/-- THE SECOND FORM's CARD OF 'laws.FnExactShortenAll'. -/
def fnExactShortenAllUptoCard : Claim7 := { stood := { row := fnExactShortenAllUptoRow, standIns := [], harness := (true, "49424245387de0b4d0fcc2845f30d9a685c7cdf33498e0121a56b32f76657620"), looks := false }, kinds := [], alts := [], laidByText := true, laidKinds := [.data, .listed, .data, .pinned], laidTests := true, laidLooks := .later }
def FnExactShortenAllUptoCardSaid : Prop := Claim7.holds Tryd.pinned (.plain (OpenSpec.upto fnExactShortenAllSpec)) fnExactShortenAllUptoCard

/-- THE SECOND FORM's CARD OF 'laws.FnExactLengthenAll'. -/
def fnExactLengthenAllUptoCard : Claim7 := { stood := { row := fnExactLengthenAllUptoRow, standIns := [], harness := (true, "49424245387de0b4d0fcc2845f30d9a685c7cdf33498e0121a56b32f76657620"), looks := false }, kinds := [], alts := [], laidByText := true, laidKinds := [.data, .listed, .data, .pinned], laidTests := true, laidLooks := .later }
def FnExactLengthenAllUptoCardSaid : Prop := Claim7.holds Tryd.pinned (.plain (OpenSpec.upto fnExactLengthenAllSpec)) fnExactLengthenAllUptoCard

/-- THE SECOND FORM's CARD OF 'laws.FnExactLinesOf'. -/
def fnExactLinesOfUptoCard : Claim7 := { stood := { row := fnExactLinesOfUptoRow, standIns := [], harness := (true, "49424245387de0b4d0fcc2845f30d9a685c7cdf33498e0121a56b32f76657620"), looks := false }, kinds := [], alts := [], laidByText := true, laidKinds := [.data, .listed, .data, .pinned], laidTests := true, laidLooks := .later }
def FnExactLinesOfUptoCardSaid : Prop := Claim7.holds Tryd.pinned (.plain (OpenSpec.upto fnExactLinesOfSpec)) fnExactLinesOfUptoCard
end Rows
end Go.Proofs.YtiapaggkbhdnkaaDoor
