/-
  DERIVED. GIVEN WITH THE SEED: THE CARDS: each row of YtnhepjgnddbhjaaDoorRows.lean that lists a variable, with what it lists TIED to the program's text (the seventh form; the later family's looks); each row that meets fmt, with fmt's text TOLD by the authors' own Lean function (tested against real Go, not proved from fmt's source: count such statements apart). THE CARD IS WHAT COUNTS. Prove the row's statement (the work); the ties are given (YtnhepjgnddbhjaaDoorTie.lean); close each card by the builder's one call (the guide's Derived/Test/ToyasCard.lean, 'card_holds'). Laid BY PROGRAM, IN A SANDBOX (cutbox-door.mjs). By AI agents, Wed Nov 11 2026. No macro, syntax, notation, axiom, sorry.
-/
import Derived.Test.YtnhepjgnddbhjaaDoorRows
import GoSem.ClaimSeven
namespace Go.Proofs.YtnhepjgnddbhjaaDoor
namespace Rows

/-- THE TIED CARD OF 'laws.FnExactCutAgain'. -/
def fnExactCutAgainCard : Claim7 := { stood := { row := fnExactCutAgainRow, standIns := [], harness := (true, "7ad58e4c19dc2de63c8db1eac9d3e12c6790b4aac81d9a74c661ed9aeda6e84d"), looks := false }, kinds := [], alts := [], laidByText := true, laidKinds := [.data, .pinned], laidTests := true, laidLooks := .later }
def FnExactCutAgainCardSaid : Prop := Claim7.holds Tryd.pinned (.plain (OpenSpec.ofChange fnExactCutAgainSpec)) fnExactCutAgainCard

/-- THE SECOND FORM's CARD OF 'laws.FnExactCutAgain'. -/
def fnExactCutAgainUptoCard : Claim7 := { stood := { row := fnExactCutAgainUptoRow, standIns := [], harness := (true, "7ad58e4c19dc2de63c8db1eac9d3e12c6790b4aac81d9a74c661ed9aeda6e84d"), looks := false }, kinds := [], alts := [], laidByText := true, laidKinds := [.data, .pinned], laidTests := true, laidLooks := .later }
def FnExactCutAgainUptoCardSaid : Prop := Claim7.holds Tryd.pinned (.plain (OpenSpec.upto fnExactCutAgainSpec)) fnExactCutAgainUptoCard
end Rows
end Go.Proofs.YtnhepjgnddbhjaaDoor
