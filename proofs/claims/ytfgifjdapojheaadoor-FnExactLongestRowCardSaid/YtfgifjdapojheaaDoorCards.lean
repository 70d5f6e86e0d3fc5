/-
  DERIVED. GIVEN WITH THE SEED: THE CARDS: each row of YtfgifjdapojheaaDoorRows.lean that lists a variable, with what it lists TIED to the program's text (the seventh form; the later family's looks); each row that meets fmt, with fmt's text TOLD by the authors' own Lean function (tested against real Go, not proved from fmt's source: count such statements apart). THE CARD IS WHAT COUNTS. Prove the row's statement (the work); the ties are given (YtfgifjdapojheaaDoorTie.lean); close each card by the builder's one call (the guide's Derived/Test/ToyasCard.lean, 'card_holds'). Laid BY PROGRAM, IN A SANDBOX (cutbox-door.mjs). By AI agents, Wed Nov 11 2026. No macro, syntax, notation, axiom, sorry.
-/
import Derived.Test.YtfgifjdapojheaaDoorRows
import GoSem.ClaimSeven
namespace Go.Proofs.YtfgifjdapojheaaDoor
namespace Rows

/-- THE TIED CARD OF 'laws.FnExactLongestRow'. -/
def fnExactLongestRowCard : Claim7 := { stood := { row := fnExactLongestRowRow, standIns := [], harness := (true, "34494baccbb267746c752db9f253e9da701c31490f418d60b56ad1cbabcfc148"), looks := false }, kinds := [], alts := [], laidByText := true, laidKinds := [.data, .pinned], laidTests := true, laidLooks := .later }
def FnExactLongestRowCardSaid : Prop := Claim7.holds Tryd.pinned (.plain (OpenSpec.ofChange fnExactLongestRowSpec)) fnExactLongestRowCard

/-- THE SECOND FORM's CARD OF 'laws.FnExactLongestRow'. -/
def fnExactLongestRowUptoCard : Claim7 := { stood := { row := fnExactLongestRowUptoRow, standIns := [], harness := (true, "34494baccbb267746c752db9f253e9da701c31490f418d60b56ad1cbabcfc148"), looks := false }, kinds := [], alts := [], laidByText := true, laidKinds := [.data, .pinned], laidTests := true, laidLooks := .later }
def FnExactLongestRowUptoCardSaid : Prop := Claim7.holds Tryd.pinned (.plain (OpenSpec.upto fnExactLongestRowSpec)) fnExactLongestRowUptoCard
end Rows
end Go.Proofs.YtfgifjdapojheaaDoor
