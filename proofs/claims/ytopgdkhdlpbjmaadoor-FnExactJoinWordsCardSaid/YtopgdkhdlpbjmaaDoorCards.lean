/-
  DERIVED. GIVEN WITH THE SEED: THE CARDS: each row of YtopgdkhdlpbjmaaDoorRows.lean that lists a variable, with what it lists TIED to the program's text (the seventh form; the later family's looks); each row that meets fmt, with fmt's text TOLD by the authors' own Lean function (tested against real Go, not proved from fmt's source: count such statements apart). THE CARD IS WHAT COUNTS. Prove the row's statement (the work); the ties are given (YtopgdkhdlpbjmaaDoorTie.lean); close each card by the builder's one call (the guide's Derived/Test/ToyasCard.lean, 'card_holds'). Laid BY PROGRAM, IN A SANDBOX (cutbox-door.mjs). By AI agents, Wed Nov 11 2026. No macro, syntax, notation, axiom, sorry.
-/
import Derived.Test.YtopgdkhdlpbjmaaDoorRows
import GoSem.ClaimSeven
namespace Go.Proofs.YtopgdkhdlpbjmaaDoor
namespace Rows

/-- THE TIED CARD OF 'laws.FnExactValidText'. -/
def fnExactValidTextCard : Claim7 := { stood := { row := fnExactValidTextRow, standIns := [], harness := (true, "1eb66662f32c3386106def1ca9627e34400e1e07bf3cf7424c3cb31b728a6e0f"), looks := true }, kinds := [], alts := [], laidByText := true, laidKinds := [.data, .pinned], laidTests := true, laidLooks := .later }
def FnExactValidTextCardSaid : Prop := Claim7.holds Tryd.pinned (.plain (OpenSpec.ofChange fnExactValidTextSpec)) fnExactValidTextCard

/-- THE TIED CARD OF 'laws.FnExactWordsOf'. -/
def fnExactWordsOfCard : Claim7 := { stood := { row := fnExactWordsOfRow, standIns := [], harness := (true, "1eb66662f32c3386106def1ca9627e34400e1e07bf3cf7424c3cb31b728a6e0f"), looks := true }, kinds := [], alts := [], laidByText := true, laidKinds := [.data, .listed, .data, .pinned], laidTests := true, laidLooks := .later }
def FnExactWordsOfCardSaid : Prop := Claim7.holds Tryd.pinned (.plain (OpenSpec.ofChange fnExactWordsOfSpec)) fnExactWordsOfCard

/-- THE TIED CARD OF 'laws.FnExactJoinWords'. -/
def fnExactJoinWordsCard : Claim7 := { stood := { row := fnExactJoinWordsRow, standIns := [], harness := (true, "1eb66662f32c3386106def1ca9627e34400e1e07bf3cf7424c3cb31b728a6e0f"), looks := true }, kinds := [], alts := [], laidByText := true, laidKinds := [.data, .pinned], laidTests := true, laidLooks := .later }
def FnExactJoinWordsCardSaid : Prop := Claim7.holds Tryd.pinned (.plain (OpenSpec.ofChange fnExactJoinWordsSpec)) fnExactJoinWordsCard

/-- THE TIED CARD OF 'laws.FnExactCountLetters'. -/
def fnExactCountLettersCard : Claim7 := { stood := { row := fnExactCountLettersRow, standIns := [], harness := (true, "1eb66662f32c3386106def1ca9627e34400e1e07bf3cf7424c3cb31b728a6e0f"), looks := true }, kinds := [], alts := [], laidByText := true, laidKinds := [.data, .pinned], laidTests := true, laidLooks := .later }
def FnExactCountLettersCardSaid : Prop := Claim7.holds Tryd.pinned (.plain (OpenSpec.ofChange fnExactCountLettersSpec)) fnExactCountLettersCard

/-- THE TIED CARD OF 'laws.FnExactFaceText'. -/
def fnExactFaceTextCard : Claim7 := { stood := { row := fnExactFaceTextRow, standIns := [], harness := (true, "1eb66662f32c3386106def1ca9627e34400e1e07bf3cf7424c3cb31b728a6e0f"), looks := true }, kinds := [], alts := [], laidByText := true, laidKinds := [.data, .data, .data], laidTests := true, laidLooks := .later }
def FnExactFaceTextCardSaid : Prop := Claim7.holds Tryd.pinned (.plain (OpenSpec.ofChange fnExactFaceTextSpec)) fnExactFaceTextCard

/-- THE TIED CARD OF 'laws.FnExactReadFace'. -/
def fnExactReadFaceCard : Claim7 := { stood := { row := fnExactReadFaceRow, standIns := [], harness := (true, "1eb66662f32c3386106def1ca9627e34400e1e07bf3cf7424c3cb31b728a6e0f"), looks := true }, kinds := [], alts := [], laidByText := true, laidKinds := [.data, .data, .data, .data, .sentinel, .sentinel, .listed, .data, .pinned], laidTests := true, laidLooks := .later }
def FnExactReadFaceCardSaid : Prop := Claim7.holds Tryd.pinned (.plain (OpenSpec.ofChange fnExactReadFaceSpec)) fnExactReadFaceCard

/-- THE SECOND FORM's CARD OF 'laws.FnExactValidText'. -/
def fnExactValidTextUptoCard : Claim7 := { stood := { row := fnExactValidTextUptoRow, standIns := [], harness := (true, "1eb66662f32c3386106def1ca9627e34400e1e07bf3cf7424c3cb31b728a6e0f"), looks := true }, kinds := [], alts := [], laidByText := true, laidKinds := [.data, .pinned], laidTests := true, laidLooks := .later }
def FnExactValidTextUptoCardSaid : Prop := Claim7.holds Tryd.pinned (.plain (OpenSpec.upto fnExactValidTextSpec)) fnExactValidTextUptoCard

/-- THE SECOND FORM's CARD OF 'laws.FnExactWordsOf'. -/
def fnExactWordsOfUptoCard : Claim7 := { stood := { row := fnExactWordsOfUptoRow, standIns := [], harness := (true, "1eb66662f32c3386106def1ca9627e34400e1e07bf3cf7424c3cb31b728a6e0f"), looks := true }, kinds := [], alts := [], laidByText := true, laidKinds := [.data, .listed, .data, .pinned], laidTests := true, laidLooks := .later }
def FnExactWordsOfUptoCardSaid : Prop := Claim7.holds Tryd.pinned (.plain (OpenSpec.upto fnExactWordsOfSpec)) fnExactWordsOfUptoCard

/-- THE SECOND FORM's CARD OF 'laws.FnExactJoinWords'. -/
def fnExactJoinWordsUptoCard : Claim7 := { stood := { row := fnExactJoinWordsUptoRow, standIns := [], harness := (true, "1eb66662f32c3386106def1ca9627e34400e1e07bf3cf7424c3cb31b728a6e0f"), looks := true }, kinds := [], alts := [], laidByText := true, laidKinds := [.data, .pinned], laidTests := true, laidLooks := .later }
def FnExactJoinWordsUptoCardSaid : Prop := Claim7.holds Tryd.pinned (.plain (OpenSpec.upto fnExactJoinWordsSpec)) fnExactJoinWordsUptoCard

/-- THE SECOND FORM's CARD OF 'laws.FnExactCountLetters'. -/
def fnExactCountLettersUptoCard : Claim7 := { stood := { row := fnExactCountLettersUptoRow, standIns := [], harness := (true, "1eb66662f32c3386106def1ca9627e34400e1e07bf3cf7424c3cb31b728a6e0f"), looks := true }, kinds := [], alts := [], laidByText := true, laidKinds := [.data, .pinned], laidTests := true, laidLooks := .later }
def FnExactCountLettersUptoCardSaid : Prop := Claim7.holds Tryd.pinned (.plain (OpenSpec.upto fnExactCountLettersSpec)) fnExactCountLettersUptoCard

/-- THE SECOND FORM's CARD OF 'laws.FnExactFaceText'. -/
def fnExactFaceTextUptoCard : Claim7 := { stood := { row := fnExactFaceTextUptoRow, standIns := [], harness := (true, "1eb66662f32c3386106def1ca9627e34400e1e07bf3cf7424c3cb31b728a6e0f"), looks := true }, kinds := [], alts := [], laidByText := true, laidKinds := [.data, .data, .data], laidTests := true, laidLooks := .later }
def FnExactFaceTextUptoCardSaid : Prop := Claim7.holds Tryd.pinned (.plain (OpenSpec.upto fnExactFaceTextSpec)) fnExactFaceTextUptoCard

/-- THE SECOND FORM's CARD OF 'laws.FnExactReadFace'. -/
def fnExactReadFaceUptoCard : Claim7 := { stood := { row := fnExactReadFaceUptoRow, standIns := [], harness := (true, "1eb66662f32c3386106def1ca9627e34400e1e07bf3cf7424c3cb31b728a6e0f"), looks := true }, kinds := [], alts := [], laidByText := true, laidKinds := [.data, .data, .data, .data, .sentinel, .sentinel, .listed, .data, .pinned], laidTests := true, laidLooks := .later }
def FnExactReadFaceUptoCardSaid : Prop := Claim7.holds Tryd.pinned (.plain (OpenSpec.upto fnExactReadFaceSpec)) fnExactReadFaceUptoCard
end Rows
end Go.Proofs.YtopgdkhdlpbjmaaDoor
