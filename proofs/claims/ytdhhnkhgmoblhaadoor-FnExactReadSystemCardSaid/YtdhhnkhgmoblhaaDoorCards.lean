/-
  DERIVED. GIVEN WITH THE SEED: THE CARDS: each row of YtdhhnkhgmoblhaaDoorRows.lean that lists a variable, with what it lists TIED to the program's text (the seventh form; the later family's looks); each row that meets fmt, with fmt's text TOLD by the authors' own Lean function (tested against real Go, not proved from fmt's source: count such statements apart). THE CARD IS WHAT COUNTS. Prove the row's statement (the work); the ties are given (YtdhhnkhgmoblhaaDoorTie.lean); close each card by the builder's one call (the guide's Derived/Test/ToyasCard.lean, 'card_holds'). Laid BY PROGRAM, IN A SANDBOX (cutbox-door.mjs). By AI agents, Wed Nov 11 2026. No macro, syntax, notation, axiom, sorry.
-/
import Derived.Test.YtdhhnkhgmoblhaaDoorRows
import GoSem.ClaimSeven
namespace Go.Proofs.YtdhhnkhgmoblhaaDoor
namespace Rows

/-- THE TIED CARD OF 'laws.FnExactSystemText'. -/
def fnExactSystemTextCard : Claim7 := { stood := { row := fnExactSystemTextRow, standIns := [], harness := (true, "941e1f2f4830b0438e87eea381a825c3a055ba81d00f2f5eca7d70ec1f39e3ed"), looks := true }, kinds := [], alts := [], laidByText := true, laidKinds := [.data, .data, .data], laidTests := true, laidLooks := .later }
def FnExactSystemTextCardSaid : Prop := Claim7.holds Tryd.pinned (.plain (OpenSpec.ofChange fnExactSystemTextSpec)) fnExactSystemTextCard

/-- THE TIED CARD OF 'laws.FnExactSureLetters'. -/
def fnExactSureLettersCard : Claim7 := { stood := { row := fnExactSureLettersRow, standIns := [], harness := (true, "941e1f2f4830b0438e87eea381a825c3a055ba81d00f2f5eca7d70ec1f39e3ed"), looks := true }, kinds := [], alts := [], laidByText := true, laidKinds := [.data, .pinned], laidTests := true, laidLooks := .later }
def FnExactSureLettersCardSaid : Prop := Claim7.holds Tryd.pinned (.plain (OpenSpec.ofChange fnExactSureLettersSpec)) fnExactSureLettersCard

/-- THE TIED CARD OF 'laws.FnExactReadings'. -/
def fnExactReadingsCard : Claim7 := { stood := { row := fnExactReadingsRow, standIns := [], harness := (true, "941e1f2f4830b0438e87eea381a825c3a055ba81d00f2f5eca7d70ec1f39e3ed"), looks := true }, kinds := [], alts := [], laidByText := true, laidKinds := [.data, .pinned], laidTests := true, laidLooks := .later }
def FnExactReadingsCardSaid : Prop := Claim7.holds Tryd.pinned (.plain (OpenSpec.ofChange fnExactReadingsSpec)) fnExactReadingsCard

/-- THE TIED CARD OF 'laws.FnExactReadSystem'. -/
def fnExactReadSystemCard : Claim7 := { stood := { row := fnExactReadSystemRow, standIns := [], harness := (true, "941e1f2f4830b0438e87eea381a825c3a055ba81d00f2f5eca7d70ec1f39e3ed"), looks := true }, kinds := [], alts := [], laidByText := true, laidKinds := [.data, .data, .data, .sentinel, .sentinel, .listed, .data], laidTests := true, laidLooks := .later }
def FnExactReadSystemCardSaid : Prop := Claim7.holds Tryd.pinned (.plain (OpenSpec.ofChange fnExactReadSystemSpec)) fnExactReadSystemCard

/-- THE SECOND FORM's CARD OF 'laws.FnExactSystemText'. -/
def fnExactSystemTextUptoCard : Claim7 := { stood := { row := fnExactSystemTextUptoRow, standIns := [], harness := (true, "941e1f2f4830b0438e87eea381a825c3a055ba81d00f2f5eca7d70ec1f39e3ed"), looks := true }, kinds := [], alts := [], laidByText := true, laidKinds := [.data, .data, .data], laidTests := true, laidLooks := .later }
def FnExactSystemTextUptoCardSaid : Prop := Claim7.holds Tryd.pinned (.plain (OpenSpec.upto fnExactSystemTextSpec)) fnExactSystemTextUptoCard

/-- THE SECOND FORM's CARD OF 'laws.FnExactSureLetters'. -/
def fnExactSureLettersUptoCard : Claim7 := { stood := { row := fnExactSureLettersUptoRow, standIns := [], harness := (true, "941e1f2f4830b0438e87eea381a825c3a055ba81d00f2f5eca7d70ec1f39e3ed"), looks := true }, kinds := [], alts := [], laidByText := true, laidKinds := [.data, .pinned], laidTests := true, laidLooks := .later }
def FnExactSureLettersUptoCardSaid : Prop := Claim7.holds Tryd.pinned (.plain (OpenSpec.upto fnExactSureLettersSpec)) fnExactSureLettersUptoCard

/-- THE SECOND FORM's CARD OF 'laws.FnExactReadings'. -/
def fnExactReadingsUptoCard : Claim7 := { stood := { row := fnExactReadingsUptoRow, standIns := [], harness := (true, "941e1f2f4830b0438e87eea381a825c3a055ba81d00f2f5eca7d70ec1f39e3ed"), looks := true }, kinds := [], alts := [], laidByText := true, laidKinds := [.data, .pinned], laidTests := true, laidLooks := .later }
def FnExactReadingsUptoCardSaid : Prop := Claim7.holds Tryd.pinned (.plain (OpenSpec.upto fnExactReadingsSpec)) fnExactReadingsUptoCard

/-- THE SECOND FORM's CARD OF 'laws.FnExactReadSystem'. -/
def fnExactReadSystemUptoCard : Claim7 := { stood := { row := fnExactReadSystemUptoRow, standIns := [], harness := (true, "941e1f2f4830b0438e87eea381a825c3a055ba81d00f2f5eca7d70ec1f39e3ed"), looks := true }, kinds := [], alts := [], laidByText := true, laidKinds := [.data, .data, .data, .sentinel, .sentinel, .listed, .data], laidTests := true, laidLooks := .later }
def FnExactReadSystemUptoCardSaid : Prop := Claim7.holds Tryd.pinned (.plain (OpenSpec.upto fnExactReadSystemSpec)) fnExactReadSystemUptoCard
end Rows
end Go.Proofs.YtdhhnkhgmoblhaaDoor
