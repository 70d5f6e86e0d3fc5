/-
  DERIVED. GIVEN WITH THE SEED: THE CARDS: each row of YtiapaggkbhdnkaaGreatDoorRows.lean that lists a variable, with what it lists TIED to the program's text (the seventh form; the later family's looks); each row that meets fmt, with fmt's text TOLD by the authors' own Lean function (tested against real Go, not proved from fmt's source: count such statements apart). THE CARD IS WHAT COUNTS. Prove the row's statement (the work); the ties are given (YtiapaggkbhdnkaaGreatDoorTie.lean); close each card by the builder's one call (the guide's Derived/Test/ToyasCard.lean, 'card_holds'). Laid BY PROGRAM, IN A SANDBOX (cutbox-door.mjs). By AI agents, Wed Nov 11 2026. No macro, syntax, notation, axiom, sorry.
-/
import Derived.Test.YtiapaggkbhdnkaaGreatDoorRows
import GoSem.ClaimSeven
namespace Go.Proofs.YtiapaggkbhdnkaaGreatDoor
namespace Rows

/-- THE TIED CARD OF 'laws.FnExactShortenAt'. -/
def fnExactShortenAtCard : Claim7 := { stood := { row := fnExactShortenAtRow, standIns := [], harness := (true, "552a376b71b98dc62ee7c161494836d9075243c24ad281ed79d4700d7a776ff5"), looks := false }, kinds := [], alts := [], laidByText := true, laidKinds := [.data, .listed, .data, .pinned], laidTests := true, laidLooks := .later }
def FnExactShortenAtCardSaid : Prop := Claim7.holds Tryz.pinned (.plain (OpenSpec.ofChange fnExactShortenAtSpec)) fnExactShortenAtCard

/-- THE SECOND FORM's CARD OF 'laws.FnExactShortenAt'. -/
def fnExactShortenAtUptoCard : Claim7 := { stood := { row := fnExactShortenAtUptoRow, standIns := [], harness := (true, "552a376b71b98dc62ee7c161494836d9075243c24ad281ed79d4700d7a776ff5"), looks := false }, kinds := [], alts := [], laidByText := true, laidKinds := [.data, .listed, .data, .pinned], laidTests := true, laidLooks := .later }
def FnExactShortenAtUptoCardSaid : Prop := Claim7.holds Tryz.pinned (.plain (OpenSpec.upto fnExactShortenAtSpec)) fnExactShortenAtUptoCard
end Rows
end Go.Proofs.YtiapaggkbhdnkaaGreatDoor
