/-
  DERIVED. GIVEN WITH THE SEED: THE CARDS: each row of YtkldhleiipfaaaaDoorRows.lean that lists a variable, with what it lists TIED to the program's text (the seventh form; the later family's looks); each row that meets fmt, with fmt's text TOLD by the authors' own Lean function (tested against real Go, not proved from fmt's source: count such statements apart). THE CARD IS WHAT COUNTS. Prove the row's statement (the work); the ties are given (YtkldhleiipfaaaaDoorTie.lean); close each card by the builder's one call (the guide's Derived/Test/ToyasCard.lean, 'card_holds'). Laid BY PROGRAM, IN A SANDBOX (cutbox-door.mjs). By AI agents, Wed Nov 11 2026. No macro, syntax, notation, axiom, sorry.
-/
import Derived.Test.YtkldhleiipfaaaaDoorRows
import GoSem.ClaimSeven
namespace Go.Proofs.YtkldhleiipfaaaaDoor
namespace Rows

/-- THE TIED CARD OF 'laws.FnExactFaceText'. -/
def fnExactFaceTextCard : Claim7 := { stood := { row := fnExactFaceTextRow, standIns := [], harness := (true, "0c54d4765cd90fb8ed75bb0724aab2921335b243370b86aa0edd1616eb232417"), looks := true }, kinds := [], alts := [], laidByText := true, laidKinds := [.data, .data, .data], laidTests := true, laidLooks := .later }
def FnExactFaceTextCardSaid : Prop := Claim7.holds Tryd.pinned (.plain (OpenSpec.ofChange fnExactFaceTextSpec)) fnExactFaceTextCard

/-- THE TIED CARD OF 'laws.FnExactReadFace'. -/
def fnExactReadFaceCard : Claim7 := { stood := { row := fnExactReadFaceRow, standIns := [], harness := (true, "0c54d4765cd90fb8ed75bb0724aab2921335b243370b86aa0edd1616eb232417"), looks := true }, kinds := [], alts := [], laidByText := true, laidKinds := [.data, .data, .data, .data, .sentinel, .sentinel, .listed, .data, .pinned], laidTests := true, laidLooks := .later }
def FnExactReadFaceCardSaid : Prop := Claim7.holds Tryd.pinned (.plain (OpenSpec.ofChange fnExactReadFaceSpec)) fnExactReadFaceCard

/-- THE SECOND FORM's CARD OF 'laws.FnExactFaceText'. -/
def fnExactFaceTextUptoCard : Claim7 := { stood := { row := fnExactFaceTextUptoRow, standIns := [], harness := (true, "0c54d4765cd90fb8ed75bb0724aab2921335b243370b86aa0edd1616eb232417"), looks := true }, kinds := [], alts := [], laidByText := true, laidKinds := [.data, .data, .data], laidTests := true, laidLooks := .later }
def FnExactFaceTextUptoCardSaid : Prop := Claim7.holds Tryd.pinned (.plain (OpenSpec.upto fnExactFaceTextSpec)) fnExactFaceTextUptoCard

/-- THE SECOND FORM's CARD OF 'laws.FnExactReadFace'. -/
def fnExactReadFaceUptoCard : Claim7 := { stood := { row := fnExactReadFaceUptoRow, standIns := [], harness := (true, "0c54d4765cd90fb8ed75bb0724aab2921335b243370b86aa0edd1616eb232417"), looks := true }, kinds := [], alts := [], laidByText := true, laidKinds := [.data, .data, .data, .data, .sentinel, .sentinel, .listed, .data, .pinned], laidTests := true, laidLooks := .later }
def FnExactReadFaceUptoCardSaid : Prop := Claim7.holds Tryd.pinned (.plain (OpenSpec.upto fnExactReadFaceSpec)) fnExactReadFaceUptoCard
end Rows
end Go.Proofs.YtkldhleiipfaaaaDoor
