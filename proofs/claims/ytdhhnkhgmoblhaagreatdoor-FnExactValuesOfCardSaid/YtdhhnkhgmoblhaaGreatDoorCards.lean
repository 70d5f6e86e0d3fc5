/-
  DERIVED. GIVEN WITH THE SEED: THE CARDS: each row of YtdhhnkhgmoblhaaGreatDoorRows.lean that lists a variable, with what it lists TIED to the program's text (the seventh form; the later family's looks); each row that meets fmt, with fmt's text TOLD by the authors' own Lean function (tested against real Go, not proved from fmt's source: count such statements apart). THE CARD IS WHAT COUNTS. Prove the row's statement (the work); the ties are given (YtdhhnkhgmoblhaaGreatDoorTie.lean); close each card by the builder's one call (the guide's Derived/Test/ToyasCard.lean, 'card_holds'). Laid BY PROGRAM, IN A SANDBOX (cutbox-door.mjs). By AI agents, Wed Nov 11 2026. No macro, syntax, notation, axiom, sorry.
-/
import Derived.Test.YtdhhnkhgmoblhaaGreatDoorRows
import GoSem.ClaimSeven
namespace Go.Proofs.YtdhhnkhgmoblhaaGreatDoor
namespace Rows

/-- THE TIED CARD OF 'laws.FnExactReadingsBetween'. -/
def fnExactReadingsBetweenCard : Claim7 := { stood := { row := fnExactReadingsBetweenRow, standIns := [], harness := (true, "2ecebf3df2493250279822f7b414a2e5a2c83e7733bdc9a79381c4ea8a7f0013"), looks := false }, kinds := [], alts := [], laidByText := true, laidKinds := [.data, .pinned], laidTests := true, laidLooks := .later }
def FnExactReadingsBetweenCardSaid : Prop := Claim7.holds Tryz.pinned (.plain (OpenSpec.ofChange fnExactReadingsBetweenSpec)) fnExactReadingsBetweenCard

/-- THE TIED CARD OF 'laws.FnExactValuesOf'. -/
def fnExactValuesOfCard : Claim7 := { stood := { row := fnExactValuesOfRow, standIns := [], harness := (true, "2ecebf3df2493250279822f7b414a2e5a2c83e7733bdc9a79381c4ea8a7f0013"), looks := false }, kinds := [], alts := [], laidByText := true, laidKinds := [.data, .pinned], laidTests := true, laidLooks := .later }
def FnExactValuesOfCardSaid : Prop := Claim7.holds Tryz.pinned (.plain (OpenSpec.ofChange fnExactValuesOfSpec)) fnExactValuesOfCard

/-- THE SECOND FORM's CARD OF 'laws.FnExactReadingsBetween'. -/
def fnExactReadingsBetweenUptoCard : Claim7 := { stood := { row := fnExactReadingsBetweenUptoRow, standIns := [], harness := (true, "2ecebf3df2493250279822f7b414a2e5a2c83e7733bdc9a79381c4ea8a7f0013"), looks := false }, kinds := [], alts := [], laidByText := true, laidKinds := [.data, .pinned], laidTests := true, laidLooks := .later }
def FnExactReadingsBetweenUptoCardSaid : Prop := Claim7.holds Tryz.pinned (.plain (OpenSpec.upto fnExactReadingsBetweenSpec)) fnExactReadingsBetweenUptoCard

/-- THE SECOND FORM's CARD OF 'laws.FnExactValuesOf'. -/
def fnExactValuesOfUptoCard : Claim7 := { stood := { row := fnExactValuesOfUptoRow, standIns := [], harness := (true, "2ecebf3df2493250279822f7b414a2e5a2c83e7733bdc9a79381c4ea8a7f0013"), looks := false }, kinds := [], alts := [], laidByText := true, laidKinds := [.data, .pinned], laidTests := true, laidLooks := .later }
def FnExactValuesOfUptoCardSaid : Prop := Claim7.holds Tryz.pinned (.plain (OpenSpec.upto fnExactValuesOfSpec)) fnExactValuesOfUptoCard
end Rows
end Go.Proofs.YtdhhnkhgmoblhaaGreatDoor
