/-
  DERIVED. GIVEN WITH THE SEED: THE CARDS: each row of YtimkkjkgbbfgbaaGreatDoorRows.lean that lists a variable, with what it lists TIED to the program's text (the seventh form; the later family's looks); each row that meets fmt, with fmt's text TOLD by the authors' own Lean function (tested against real Go, not proved from fmt's source: count such statements apart). THE CARD IS WHAT COUNTS. Prove the row's statement (the work); the ties are given (YtimkkjkgbbfgbaaGreatDoorTie.lean); close each card by the builder's one call (the guide's Derived/Test/ToyasCard.lean, 'card_holds'). Laid BY PROGRAM, IN A SANDBOX (cutbox-door.mjs). By AI agents, Wed Nov 11 2026. No macro, syntax, notation, axiom, sorry.
-/
import Derived.Test.YtimkkjkgbbfgbaaGreatDoorRows
import GoSem.ClaimSeven
namespace Go.Proofs.YtimkkjkgbbfgbaaGreatDoor
namespace Rows

/-- THE TIED CARD OF 'laws.FnFaces'. -/
def fnFacesCard : Claim7 := { stood := { row := fnFacesRow, standIns := [], harness := (true, "fb52bc9017d30c788ee7705596bca896c9f2a56d7db597b7d30c20f3b0474563"), looks := true }, kinds := [], alts := [], laidByText := true, laidKinds := [.data, .data, .data, .data, .sentinel, .sentinel, .listed, .data, .pinned], laidTests := true, laidLooks := .later }
def FnFacesCardSaid : Prop := Claim7.holds Tryz.pinned (.plain (OpenSpec.ofChange fnFacesSpec)) fnFacesCard

/-- THE SECOND FORM's CARD OF 'laws.FnFaces'. -/
def fnFacesUptoCard : Claim7 := { stood := { row := fnFacesUptoRow, standIns := [], harness := (true, "fb52bc9017d30c788ee7705596bca896c9f2a56d7db597b7d30c20f3b0474563"), looks := true }, kinds := [], alts := [], laidByText := true, laidKinds := [.data, .data, .data, .data, .sentinel, .sentinel, .listed, .data, .pinned], laidTests := true, laidLooks := .later }
def FnFacesUptoCardSaid : Prop := Claim7.holds Tryz.pinned (.plain (OpenSpec.upto fnFacesSpec)) fnFacesUptoCard
end Rows
end Go.Proofs.YtimkkjkgbbfgbaaGreatDoor
