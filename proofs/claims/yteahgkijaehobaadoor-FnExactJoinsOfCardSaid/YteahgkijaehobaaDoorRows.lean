/-
  NARROWER THAN 'FOR EVERY INPUT', by the rows' own cells (each row's printed sentence says how): FnExactCanTurn: laid · FnExactValidList: laid · FnExactWornOf: laid · FnExactTurnText: laid · FnExactValidPieces: laid · FnExactJoinAll: laid · FnExactMatchWorn: laid · FnExactCutAgain: laid · FnExactJoinsOf: laid · FnExactTurnedWords: laid · FnExactLongestRow: laid.
  DERIVED. THE GIVEN ROWS OF THIS SEAT. 11 by the template 'for every input the law returns true; each argument reads behind the call as it read before'; 0 by the template 'total and deterministic' (their statements: YteahgkijaehobaaDoorTotals.lean).
  GIVEN WITH THE SEED: the statements are not yours to turn. If you find one false, say at which input.
  Laid BY PROGRAM, IN A SANDBOX (cutbox-rows.mjs): the forced cells as the released guide's own fill.sh prints them over the translation 7b6bc0b518c15ab4… (all of the seat's roots in one cut). By AI agents, Wed Nov 11 2026. No macro, syntax, notation, axiom, sorry.
-/
import Derived.Test.YteahgkijaehobaaDoorChecked
import GoSem.PinnedTables
import GoSem.Claim
import GoSem.ClaimJoined
import GoSem.ClaimMapViews
import Derived.JoinedTies
import Derived.KernelRfl
namespace Go.Proofs.YteahgkijaehobaaDoor
/- THE CELL 'sum', in the pinned program and in every row, IS THE sha256 OF THE DUMP (.gsa) THAT YteahgkijaehobaaDoorProg.lean LOADS. Nothing in Lean hashes anything: it is a label: what it is worth is what the hold of that sum in a sandbox is worth. -/
noncomputable def Tryd.pinned : Pinned := { name := "yteahgkijaehobaadoor", sum := "7b6bc0b518c15ab4a675db58e12cd3d6ce34009b0cd00402743778e33297735c", checked := Tryd.checked }
namespace Rows
def none {H : Type} : Left H := { results := [], args := [] }

/- WHAT THE LISTED PACKAGE-LEVEL VARIABLES READ AS WHEN THE CALL BEGINS. Each datum BY PROGRAM (the guide's laid-datum.mjs) off the statement by which the dump's own 'gosem.cut.vars' lays the variable. In a bare row this is a premise. The card (YteahgkijaehobaaDoorCards.lean) ties it to the program's text. -/
def laid_unicode_utf8_acceptRanges {H : Type} : DataW H := .agg [.agg [.lit (.int .u8 128), .lit (.int .u8 191)], .agg [.lit (.int .u8 160), .lit (.int .u8 191)], .agg [.lit (.int .u8 128), .lit (.int .u8 159)], .agg [.lit (.int .u8 144), .lit (.int .u8 191)], .agg [.lit (.int .u8 128), .lit (.int .u8 143)], .agg [.lit (.int .u8 0), .lit (.int .u8 0)], .agg [.lit (.int .u8 0), .lit (.int .u8 0)], .agg [.lit (.int .u8 0), .lit (.int .u8 0)], .agg [.lit (.int .u8 0), .lit (.int .u8 0)], .agg [.lit (.int .u8 0), .lit (.int .u8 0)], .agg [.lit (.int .u8 0), .lit (.int .u8 0)], .agg [.lit (.int .u8 0), .lit (.int .u8 0)], .agg [.lit (.int .u8 0), .lit (.int .u8 0)], .agg [.lit (.int .u8 0), .lit (.int .u8 0)], .agg [.lit (.int .u8 0), .lit (.int .u8 0)], .agg [.lit (.int .u8 0), .lit (.int .u8 0)]]
/-- One of Go's own tables, pinned by name: the form's constant. -/
def laid_unicode_utf8_first : DataW Unit := Go.Pinned.utf8First

/-- 'laws.FnExactCanTurn': WHATEVER THE INPUT: true; the input reads as it did. -/
def fnExactCanTurnSpec : ChangeSpec := { name := "fnExactCanTurn", fn := fun _ => fun
  | [d] => { results := [.lit (.bool true)], args := [d] }
  | _ => none }
def fnExactCanTurnRow : OpenClaim := { program := "yteahgkijaehobaadoor", sum := "7b6bc0b518c15ab4a675db58e12cd3d6ce34009b0cd00402743778e33297735c", func := "loop.example/g01398/laws.FnExactCanTurn", spec := "fnExactCanTurn", inPlace := ["internal/bytealg.IndexByteString", "internal/bytealg.IndexString"], named := ["internal/bytealg.MaxLen", "unicode/utf8.first", "unicode/utf8.acceptRanges"], apart := false, laid := [("unicode/utf8.acceptRanges", laid_unicode_utf8_acceptRanges), ("unicode/utf8.first", laid_unicode_utf8_first)] }
def FnExactCanTurnSaid : Prop := fnExactCanTurnRow.holds Tryd.pinned (OpenSpec.ofChange fnExactCanTurnSpec)

/-- ITS FALSE NEIGHBOUR: 'it returns false'. Refute it at one input. -/
def fnExactCanTurnWrong : ChangeSpec := { name := "fnExactCanTurn", fn := fun _ => fun
  | [d] => { results := [.lit (.bool false)], args := [d] }
  | _ => none }
def FnExactCanTurnWrongFalsely : Prop := fnExactCanTurnRow.holds Tryd.pinned (OpenSpec.ofChange fnExactCanTurnWrong)

/-- 'laws.FnExactValidList': WHATEVER THE INPUT: true; the input reads as it did. -/
def fnExactValidListSpec : ChangeSpec := { name := "fnExactValidList", fn := fun _ => fun
  | [d] => { results := [.lit (.bool true)], args := [d] }
  | _ => none }
def fnExactValidListRow : OpenClaim := { program := "yteahgkijaehobaadoor", sum := "7b6bc0b518c15ab4a675db58e12cd3d6ce34009b0cd00402743778e33297735c", func := "loop.example/g01398/laws.FnExactValidList", spec := "fnExactValidList", inPlace := ["internal/bytealg.IndexByteString", "internal/bytealg.IndexString"], unfollowed := true, recurses := true, named := ["internal/bytealg.MaxLen", "unicode/utf8.first", "unicode/utf8.acceptRanges"], apart := false, laid := [("unicode/utf8.acceptRanges", laid_unicode_utf8_acceptRanges), ("unicode/utf8.first", laid_unicode_utf8_first)] }
def FnExactValidListSaid : Prop := fnExactValidListRow.holds Tryd.pinned (OpenSpec.ofChange fnExactValidListSpec)

/-- ITS FALSE NEIGHBOUR: 'it returns false'. Refute it at one input. -/
def fnExactValidListWrong : ChangeSpec := { name := "fnExactValidList", fn := fun _ => fun
  | [d] => { results := [.lit (.bool false)], args := [d] }
  | _ => none }
def FnExactValidListWrongFalsely : Prop := fnExactValidListRow.holds Tryd.pinned (OpenSpec.ofChange fnExactValidListWrong)

/-- 'laws.FnExactWornOf': WHATEVER THE INPUT: true; the input reads as it did. -/
def fnExactWornOfSpec : ChangeSpec := { name := "fnExactWornOf", fn := fun _ => fun
  | [d1, d2] => { results := [.lit (.bool true)], args := [d1, d2] }
  | _ => none }
def fnExactWornOfRow : OpenClaim := { program := "yteahgkijaehobaadoor", sum := "7b6bc0b518c15ab4a675db58e12cd3d6ce34009b0cd00402743778e33297735c", func := "loop.example/g01398/laws.FnExactWornOf", spec := "fnExactWornOf", inPlace := ["internal/bytealg.IndexByteString", "internal/bytealg.IndexString"], unfollowed := true, recurses := true, named := ["internal/bytealg.MaxLen", "unicode/utf8.first", "unicode/utf8.acceptRanges"], apart := false, laid := [("unicode/utf8.acceptRanges", laid_unicode_utf8_acceptRanges), ("unicode/utf8.first", laid_unicode_utf8_first)] }
def FnExactWornOfSaid : Prop := fnExactWornOfRow.holds Tryd.pinned (OpenSpec.ofChange fnExactWornOfSpec)

/-- ITS FALSE NEIGHBOUR: 'it returns false'. Refute it at one input. -/
def fnExactWornOfWrong : ChangeSpec := { name := "fnExactWornOf", fn := fun _ => fun
  | [d1, d2] => { results := [.lit (.bool false)], args := [d1, d2] }
  | _ => none }
def FnExactWornOfWrongFalsely : Prop := fnExactWornOfRow.holds Tryd.pinned (OpenSpec.ofChange fnExactWornOfWrong)

/-- 'laws.FnExactTurnText': WHATEVER THE INPUT: true; the input reads as it did. -/
def fnExactTurnTextSpec : ChangeSpec := { name := "fnExactTurnText", fn := fun _ => fun
  | [d] => { results := [.lit (.bool true)], args := [d] }
  | _ => none }
def fnExactTurnTextRow : OpenClaim := { program := "yteahgkijaehobaadoor", sum := "7b6bc0b518c15ab4a675db58e12cd3d6ce34009b0cd00402743778e33297735c", func := "loop.example/g01398/laws.FnExactTurnText", spec := "fnExactTurnText", inPlace := ["internal/bytealg.IndexByteString", "internal/bytealg.IndexString"], named := ["internal/bytealg.MaxLen", "unicode/utf8.first", "unicode/utf8.acceptRanges"], apart := false, laid := [("unicode/utf8.acceptRanges", laid_unicode_utf8_acceptRanges), ("unicode/utf8.first", laid_unicode_utf8_first)] }
def FnExactTurnTextSaid : Prop := fnExactTurnTextRow.holds Tryd.pinned (OpenSpec.ofChange fnExactTurnTextSpec)

/-- ITS FALSE NEIGHBOUR: 'it returns false'. Refute it at one input. -/
def fnExactTurnTextWrong : ChangeSpec := { name := "fnExactTurnText", fn := fun _ => fun
  | [d] => { results := [.lit (.bool false)], args := [d] }
  | _ => none }
def FnExactTurnTextWrongFalsely : Prop := fnExactTurnTextRow.holds Tryd.pinned (OpenSpec.ofChange fnExactTurnTextWrong)

/-- 'laws.FnExactValidPieces': WHATEVER THE INPUT: true; the input reads as it did. -/
def fnExactValidPiecesSpec : ChangeSpec := { name := "fnExactValidPieces", fn := fun _ => fun
  | [d] => { results := [.lit (.bool true)], args := [d] }
  | _ => none }
def fnExactValidPiecesRow : OpenClaim := { program := "yteahgkijaehobaadoor", sum := "7b6bc0b518c15ab4a675db58e12cd3d6ce34009b0cd00402743778e33297735c", func := "loop.example/g01398/laws.FnExactValidPieces", spec := "fnExactValidPieces", inPlace := ["internal/bytealg.IndexByteString", "internal/bytealg.IndexString"], unfollowed := true, recurses := true, named := ["internal/bytealg.MaxLen", "unicode/utf8.first", "unicode/utf8.acceptRanges"], apart := false, laid := [("unicode/utf8.acceptRanges", laid_unicode_utf8_acceptRanges), ("unicode/utf8.first", laid_unicode_utf8_first)] }
def FnExactValidPiecesSaid : Prop := fnExactValidPiecesRow.holds Tryd.pinned (OpenSpec.ofChange fnExactValidPiecesSpec)

/-- ITS FALSE NEIGHBOUR: 'it returns false'. Refute it at one input. -/
def fnExactValidPiecesWrong : ChangeSpec := { name := "fnExactValidPieces", fn := fun _ => fun
  | [d] => { results := [.lit (.bool false)], args := [d] }
  | _ => none }
def FnExactValidPiecesWrongFalsely : Prop := fnExactValidPiecesRow.holds Tryd.pinned (OpenSpec.ofChange fnExactValidPiecesWrong)

/-- 'laws.FnExactJoinAll': WHATEVER THE INPUT: true; the input reads as it did. -/
def fnExactJoinAllSpec : ChangeSpec := { name := "fnExactJoinAll", fn := fun _ => fun
  | [d1, d2] => { results := [.lit (.bool true)], args := [d1, d2] }
  | _ => none }
def fnExactJoinAllRow : OpenClaim := { program := "yteahgkijaehobaadoor", sum := "7b6bc0b518c15ab4a675db58e12cd3d6ce34009b0cd00402743778e33297735c", func := "loop.example/g01398/laws.FnExactJoinAll", spec := "fnExactJoinAll", inPlace := ["internal/bytealg.IndexByteString", "internal/bytealg.IndexString"], unfollowed := true, recurses := true, named := ["internal/bytealg.MaxLen", "unicode/utf8.first", "unicode/utf8.acceptRanges"], apart := false, laid := [("unicode/utf8.acceptRanges", laid_unicode_utf8_acceptRanges), ("unicode/utf8.first", laid_unicode_utf8_first)] }
def FnExactJoinAllSaid : Prop := fnExactJoinAllRow.holds Tryd.pinned (OpenSpec.ofChange fnExactJoinAllSpec)

/-- ITS FALSE NEIGHBOUR: 'it returns false'. Refute it at one input. -/
def fnExactJoinAllWrong : ChangeSpec := { name := "fnExactJoinAll", fn := fun _ => fun
  | [d1, d2] => { results := [.lit (.bool false)], args := [d1, d2] }
  | _ => none }
def FnExactJoinAllWrongFalsely : Prop := fnExactJoinAllRow.holds Tryd.pinned (OpenSpec.ofChange fnExactJoinAllWrong)

/-- 'laws.FnExactMatchWorn': WHATEVER THE INPUT: true; the input reads as it did. -/
def fnExactMatchWornSpec : ChangeSpec := { name := "fnExactMatchWorn", fn := fun _ => fun
  | [d1, d2] => { results := [.lit (.bool true)], args := [d1, d2] }
  | _ => none }
def fnExactMatchWornRow : OpenClaim := { program := "yteahgkijaehobaadoor", sum := "7b6bc0b518c15ab4a675db58e12cd3d6ce34009b0cd00402743778e33297735c", func := "loop.example/g01398/laws.FnExactMatchWorn", spec := "fnExactMatchWorn", inPlace := ["internal/bytealg.IndexByteString", "internal/bytealg.IndexString"], unfollowed := true, recurses := true, named := ["internal/bytealg.MaxLen", "unicode/utf8.first", "unicode/utf8.acceptRanges"], apart := false, laid := [("unicode/utf8.acceptRanges", laid_unicode_utf8_acceptRanges), ("unicode/utf8.first", laid_unicode_utf8_first)] }
def FnExactMatchWornSaid : Prop := fnExactMatchWornRow.holds Tryd.pinned (OpenSpec.ofChange fnExactMatchWornSpec)

/-- ITS FALSE NEIGHBOUR: 'it returns false'. Refute it at one input. -/
def fnExactMatchWornWrong : ChangeSpec := { name := "fnExactMatchWorn", fn := fun _ => fun
  | [d1, d2] => { results := [.lit (.bool false)], args := [d1, d2] }
  | _ => none }
def FnExactMatchWornWrongFalsely : Prop := fnExactMatchWornRow.holds Tryd.pinned (OpenSpec.ofChange fnExactMatchWornWrong)

/-- 'laws.FnExactCutAgain': WHATEVER THE INPUT: true; the input reads as it did. -/
def fnExactCutAgainSpec : ChangeSpec := { name := "fnExactCutAgain", fn := fun _ => fun
  | [d1, d2] => { results := [.lit (.bool true)], args := [d1, d2] }
  | _ => none }
def fnExactCutAgainRow : OpenClaim := { program := "yteahgkijaehobaadoor", sum := "7b6bc0b518c15ab4a675db58e12cd3d6ce34009b0cd00402743778e33297735c", func := "loop.example/g01398/laws.FnExactCutAgain", spec := "fnExactCutAgain", inPlace := ["internal/bytealg.IndexByteString", "internal/bytealg.IndexString", "internal/bytealg.CountString", "internal/abi.NoEscape", "internal/bytealg.MakeNoZero"], named := ["internal/bytealg.MaxLen", "unicode/utf8.first", "unicode/utf8.acceptRanges"], apart := false, laid := [("unicode/utf8.acceptRanges", laid_unicode_utf8_acceptRanges), ("unicode/utf8.first", laid_unicode_utf8_first)] }
def FnExactCutAgainSaid : Prop := fnExactCutAgainRow.holds Tryd.pinned (OpenSpec.ofChange fnExactCutAgainSpec)

/-- ITS FALSE NEIGHBOUR: 'it returns false'. Refute it at one input. -/
def fnExactCutAgainWrong : ChangeSpec := { name := "fnExactCutAgain", fn := fun _ => fun
  | [d1, d2] => { results := [.lit (.bool false)], args := [d1, d2] }
  | _ => none }
def FnExactCutAgainWrongFalsely : Prop := fnExactCutAgainRow.holds Tryd.pinned (OpenSpec.ofChange fnExactCutAgainWrong)

/-- 'laws.FnExactJoinsOf': WHATEVER THE INPUT: true; the input reads as it did. -/
def fnExactJoinsOfSpec : ChangeSpec := { name := "fnExactJoinsOf", fn := fun _ => fun
  | [d] => { results := [.lit (.bool true)], args := [d] }
  | _ => none }
def fnExactJoinsOfRow : OpenClaim := { program := "yteahgkijaehobaadoor", sum := "7b6bc0b518c15ab4a675db58e12cd3d6ce34009b0cd00402743778e33297735c", func := "loop.example/g01398/laws.FnExactJoinsOf", spec := "fnExactJoinsOf", inPlace := ["internal/bytealg.IndexByteString", "internal/bytealg.IndexString"], unfollowed := true, recurses := true, named := ["internal/bytealg.MaxLen", "unicode/utf8.first", "unicode/utf8.acceptRanges"], apart := false, laid := [("unicode/utf8.acceptRanges", laid_unicode_utf8_acceptRanges), ("unicode/utf8.first", laid_unicode_utf8_first)] }
def FnExactJoinsOfSaid : Prop := fnExactJoinsOfRow.holds Tryd.pinned (OpenSpec.ofChange fnExactJoinsOfSpec)

/-- ITS FALSE NEIGHBOUR: 'it returns false'. Refute it at one input. -/
def fnExactJoinsOfWrong : ChangeSpec := { name := "fnExactJoinsOf", fn := fun _ => fun
  | [d] => { results := [.lit (.bool false)], args := [d] }
  | _ => none }
def FnExactJoinsOfWrongFalsely : Prop := fnExactJoinsOfRow.holds Tryd.pinned (OpenSpec.ofChange fnExactJoinsOfWrong)

/-- 'laws.FnExactTurnedWords': WHATEVER THE INPUT: true; the input reads as it did. -/
def fnExactTurnedWordsSpec : ChangeSpec := { name := "fnExactTurnedWords", fn := fun _ => fun
  | [d] => { results := [.lit (.bool true)], args := [d] }
  | _ => none }
def fnExactTurnedWordsRow : OpenClaim := { program := "yteahgkijaehobaadoor", sum := "7b6bc0b518c15ab4a675db58e12cd3d6ce34009b0cd00402743778e33297735c", func := "loop.example/g01398/laws.FnExactTurnedWords", spec := "fnExactTurnedWords", inPlace := ["internal/bytealg.IndexByteString", "internal/bytealg.IndexString"], unfollowed := true, recurses := true, named := ["internal/bytealg.MaxLen", "unicode/utf8.first", "unicode/utf8.acceptRanges"], apart := false, laid := [("unicode/utf8.acceptRanges", laid_unicode_utf8_acceptRanges), ("unicode/utf8.first", laid_unicode_utf8_first)] }
def FnExactTurnedWordsSaid : Prop := fnExactTurnedWordsRow.holds Tryd.pinned (OpenSpec.ofChange fnExactTurnedWordsSpec)

/-- ITS FALSE NEIGHBOUR: 'it returns false'. Refute it at one input. -/
def fnExactTurnedWordsWrong : ChangeSpec := { name := "fnExactTurnedWords", fn := fun _ => fun
  | [d] => { results := [.lit (.bool false)], args := [d] }
  | _ => none }
def FnExactTurnedWordsWrongFalsely : Prop := fnExactTurnedWordsRow.holds Tryd.pinned (OpenSpec.ofChange fnExactTurnedWordsWrong)

/-- 'laws.FnExactLongestRow': WHATEVER THE INPUT: true; the input reads as it did. -/
def fnExactLongestRowSpec : ChangeSpec := { name := "fnExactLongestRow", fn := fun _ => fun
  | [d] => { results := [.lit (.bool true)], args := [d] }
  | _ => none }
def fnExactLongestRowRow : OpenClaim := { program := "yteahgkijaehobaadoor", sum := "7b6bc0b518c15ab4a675db58e12cd3d6ce34009b0cd00402743778e33297735c", func := "loop.example/g01398/laws.FnExactLongestRow", spec := "fnExactLongestRow", inPlace := ["internal/bytealg.IndexByteString", "internal/bytealg.IndexString"], unfollowed := true, recurses := true, named := ["internal/bytealg.MaxLen", "unicode/utf8.first", "unicode/utf8.acceptRanges"], apart := false, laid := [("unicode/utf8.acceptRanges", laid_unicode_utf8_acceptRanges), ("unicode/utf8.first", laid_unicode_utf8_first)] }
def FnExactLongestRowSaid : Prop := fnExactLongestRowRow.holds Tryd.pinned (OpenSpec.ofChange fnExactLongestRowSpec)

/-- ITS FALSE NEIGHBOUR: 'it returns false'. Refute it at one input. -/
def fnExactLongestRowWrong : ChangeSpec := { name := "fnExactLongestRow", fn := fun _ => fun
  | [d] => { results := [.lit (.bool false)], args := [d] }
  | _ => none }
def FnExactLongestRowWrongFalsely : Prop := fnExactLongestRowRow.holds Tryd.pinned (OpenSpec.ofChange fnExactLongestRowWrong)

/- THE SECOND FORM. 'bulk': how many values and letters a reading holds, each counted each time it is reached (what is shared counts as often as it is met; a slice's spare places count too). A statement '..UptoSaid' is the law's where the arguments, and the package variables that the reading takes, are together of bulk at most 1048576: NARROWER than '..Said'. Prove '..Said' where nothing that the law and all that it calls make is longer than what came in: it says more and counts as full. Else prove '..UptoSaid'. A law counts once. -/
mutual
def uptoBulk {H : Type} : DataW H → Nat
  | .lit (.string bytes) => bytes.length + 1
  | .lit _ => 1
  | .nil => 1
  | .ptr d => uptoBulk d + 1
  | .slice elems spare => uptoBulkAll elems + uptoBulkAll spare + 1
  | .agg parts => uptoBulkAll parts + 1
  | .iface _ d => uptoBulk d + 1
  | .map entries => uptoBulkEntries entries + 1
  | .held _ => 1
def uptoBulkAll {H : Type} : List (DataW H) → Nat
  | [] => 0
  | d :: r => uptoBulk d + uptoBulkAll r
def uptoBulkEntries {H : Type} : List (Lit × DataW H) → Nat
  | [] => 0
  | x :: r => uptoBulkEntry x + uptoBulkEntries r
def uptoBulkEntry {H : Type} : Lit × DataW H → Nat
  | (.string bytes, d) => bytes.length + uptoBulk d + 1
  | (_, d) => uptoBulk d + 1
 end
def uptoSmall : (H : Type) → List (DataW H) → Bool := fun _ ds => decide (uptoBulkAll ds ≤ 1048576)
def OpenSpec.upto (s : _root_.Go.ChangeSpec) : _root_.Go.OpenSpec := { _root_.Go.OpenSpec.ofChange s with cond := some uptoSmall }

/-- 'laws.FnExactCanTurn', WHERE WHAT IT READS IS OF BULK AT MOST 1048576: true; the input reads as it did. -/
def fnExactCanTurnUptoRow : OpenClaim := { program := "yteahgkijaehobaadoor", sum := "7b6bc0b518c15ab4a675db58e12cd3d6ce34009b0cd00402743778e33297735c", func := "loop.example/g01398/laws.FnExactCanTurn", spec := "fnExactCanTurn", inPlace := ["internal/bytealg.IndexByteString", "internal/bytealg.IndexString"], named := ["internal/bytealg.MaxLen", "unicode/utf8.first", "unicode/utf8.acceptRanges"], apart := false, laid := [("unicode/utf8.acceptRanges", laid_unicode_utf8_acceptRanges), ("unicode/utf8.first", laid_unicode_utf8_first)], narrowed := true }
def FnExactCanTurnUptoSaid : Prop := fnExactCanTurnUptoRow.holds Tryd.pinned (OpenSpec.upto fnExactCanTurnSpec)

/-- 'laws.FnExactValidList', WHERE WHAT IT READS IS OF BULK AT MOST 1048576: true; the input reads as it did. -/
def fnExactValidListUptoRow : OpenClaim := { program := "yteahgkijaehobaadoor", sum := "7b6bc0b518c15ab4a675db58e12cd3d6ce34009b0cd00402743778e33297735c", func := "loop.example/g01398/laws.FnExactValidList", spec := "fnExactValidList", inPlace := ["internal/bytealg.IndexByteString", "internal/bytealg.IndexString"], unfollowed := true, recurses := true, named := ["internal/bytealg.MaxLen", "unicode/utf8.first", "unicode/utf8.acceptRanges"], apart := false, laid := [("unicode/utf8.acceptRanges", laid_unicode_utf8_acceptRanges), ("unicode/utf8.first", laid_unicode_utf8_first)], narrowed := true }
def FnExactValidListUptoSaid : Prop := fnExactValidListUptoRow.holds Tryd.pinned (OpenSpec.upto fnExactValidListSpec)

/-- 'laws.FnExactWornOf', WHERE WHAT IT READS IS OF BULK AT MOST 1048576: true; the input reads as it did. -/
def fnExactWornOfUptoRow : OpenClaim := { program := "yteahgkijaehobaadoor", sum := "7b6bc0b518c15ab4a675db58e12cd3d6ce34009b0cd00402743778e33297735c", func := "loop.example/g01398/laws.FnExactWornOf", spec := "fnExactWornOf", inPlace := ["internal/bytealg.IndexByteString", "internal/bytealg.IndexString"], unfollowed := true, recurses := true, named := ["internal/bytealg.MaxLen", "unicode/utf8.first", "unicode/utf8.acceptRanges"], apart := false, laid := [("unicode/utf8.acceptRanges", laid_unicode_utf8_acceptRanges), ("unicode/utf8.first", laid_unicode_utf8_first)], narrowed := true }
def FnExactWornOfUptoSaid : Prop := fnExactWornOfUptoRow.holds Tryd.pinned (OpenSpec.upto fnExactWornOfSpec)

/-- 'laws.FnExactTurnText', WHERE WHAT IT READS IS OF BULK AT MOST 1048576: true; the input reads as it did. -/
def fnExactTurnTextUptoRow : OpenClaim := { program := "yteahgkijaehobaadoor", sum := "7b6bc0b518c15ab4a675db58e12cd3d6ce34009b0cd00402743778e33297735c", func := "loop.example/g01398/laws.FnExactTurnText", spec := "fnExactTurnText", inPlace := ["internal/bytealg.IndexByteString", "internal/bytealg.IndexString"], named := ["internal/bytealg.MaxLen", "unicode/utf8.first", "unicode/utf8.acceptRanges"], apart := false, laid := [("unicode/utf8.acceptRanges", laid_unicode_utf8_acceptRanges), ("unicode/utf8.first", laid_unicode_utf8_first)], narrowed := true }
def FnExactTurnTextUptoSaid : Prop := fnExactTurnTextUptoRow.holds Tryd.pinned (OpenSpec.upto fnExactTurnTextSpec)

/-- 'laws.FnExactValidPieces', WHERE WHAT IT READS IS OF BULK AT MOST 1048576: true; the input reads as it did. -/
def fnExactValidPiecesUptoRow : OpenClaim := { program := "yteahgkijaehobaadoor", sum := "7b6bc0b518c15ab4a675db58e12cd3d6ce34009b0cd00402743778e33297735c", func := "loop.example/g01398/laws.FnExactValidPieces", spec := "fnExactValidPieces", inPlace := ["internal/bytealg.IndexByteString", "internal/bytealg.IndexString"], unfollowed := true, recurses := true, named := ["internal/bytealg.MaxLen", "unicode/utf8.first", "unicode/utf8.acceptRanges"], apart := false, laid := [("unicode/utf8.acceptRanges", laid_unicode_utf8_acceptRanges), ("unicode/utf8.first", laid_unicode_utf8_first)], narrowed := true }
def FnExactValidPiecesUptoSaid : Prop := fnExactValidPiecesUptoRow.holds Tryd.pinned (OpenSpec.upto fnExactValidPiecesSpec)

/-- 'laws.FnExactJoinAll', WHERE WHAT IT READS IS OF BULK AT MOST 1048576: true; the input reads as it did. -/
def fnExactJoinAllUptoRow : OpenClaim := { program := "yteahgkijaehobaadoor", sum := "7b6bc0b518c15ab4a675db58e12cd3d6ce34009b0cd00402743778e33297735c", func := "loop.example/g01398/laws.FnExactJoinAll", spec := "fnExactJoinAll", inPlace := ["internal/bytealg.IndexByteString", "internal/bytealg.IndexString"], unfollowed := true, recurses := true, named := ["internal/bytealg.MaxLen", "unicode/utf8.first", "unicode/utf8.acceptRanges"], apart := false, laid := [("unicode/utf8.acceptRanges", laid_unicode_utf8_acceptRanges), ("unicode/utf8.first", laid_unicode_utf8_first)], narrowed := true }
def FnExactJoinAllUptoSaid : Prop := fnExactJoinAllUptoRow.holds Tryd.pinned (OpenSpec.upto fnExactJoinAllSpec)

/-- 'laws.FnExactMatchWorn', WHERE WHAT IT READS IS OF BULK AT MOST 1048576: true; the input reads as it did. -/
def fnExactMatchWornUptoRow : OpenClaim := { program := "yteahgkijaehobaadoor", sum := "7b6bc0b518c15ab4a675db58e12cd3d6ce34009b0cd00402743778e33297735c", func := "loop.example/g01398/laws.FnExactMatchWorn", spec := "fnExactMatchWorn", inPlace := ["internal/bytealg.IndexByteString", "internal/bytealg.IndexString"], unfollowed := true, recurses := true, named := ["internal/bytealg.MaxLen", "unicode/utf8.first", "unicode/utf8.acceptRanges"], apart := false, laid := [("unicode/utf8.acceptRanges", laid_unicode_utf8_acceptRanges), ("unicode/utf8.first", laid_unicode_utf8_first)], narrowed := true }
def FnExactMatchWornUptoSaid : Prop := fnExactMatchWornUptoRow.holds Tryd.pinned (OpenSpec.upto fnExactMatchWornSpec)

/-- 'laws.FnExactCutAgain', WHERE WHAT IT READS IS OF BULK AT MOST 1048576: true; the input reads as it did. -/
def fnExactCutAgainUptoRow : OpenClaim := { program := "yteahgkijaehobaadoor", sum := "7b6bc0b518c15ab4a675db58e12cd3d6ce34009b0cd00402743778e33297735c", func := "loop.example/g01398/laws.FnExactCutAgain", spec := "fnExactCutAgain", inPlace := ["internal/bytealg.IndexByteString", "internal/bytealg.IndexString", "internal/bytealg.CountString", "internal/abi.NoEscape", "internal/bytealg.MakeNoZero"], named := ["internal/bytealg.MaxLen", "unicode/utf8.first", "unicode/utf8.acceptRanges"], apart := false, laid := [("unicode/utf8.acceptRanges", laid_unicode_utf8_acceptRanges), ("unicode/utf8.first", laid_unicode_utf8_first)], narrowed := true }
def FnExactCutAgainUptoSaid : Prop := fnExactCutAgainUptoRow.holds Tryd.pinned (OpenSpec.upto fnExactCutAgainSpec)

/-- 'laws.FnExactJoinsOf', WHERE WHAT IT READS IS OF BULK AT MOST 1048576: true; the input reads as it did. -/
def fnExactJoinsOfUptoRow : OpenClaim := { program := "yteahgkijaehobaadoor", sum := "7b6bc0b518c15ab4a675db58e12cd3d6ce34009b0cd00402743778e33297735c", func := "loop.example/g01398/laws.FnExactJoinsOf", spec := "fnExactJoinsOf", inPlace := ["internal/bytealg.IndexByteString", "internal/bytealg.IndexString"], unfollowed := true, recurses := true, named := ["internal/bytealg.MaxLen", "unicode/utf8.first", "unicode/utf8.acceptRanges"], apart := false, laid := [("unicode/utf8.acceptRanges", laid_unicode_utf8_acceptRanges), ("unicode/utf8.first", laid_unicode_utf8_first)], narrowed := true }
def FnExactJoinsOfUptoSaid : Prop := fnExactJoinsOfUptoRow.holds Tryd.pinned (OpenSpec.upto fnExactJoinsOfSpec)

/-- 'laws.FnExactTurnedWords', WHERE WHAT IT READS IS OF BULK AT MOST 1048576: true; the input reads as it did. -/
def fnExactTurnedWordsUptoRow : OpenClaim := { program := "yteahgkijaehobaadoor", sum := "7b6bc0b518c15ab4a675db58e12cd3d6ce34009b0cd00402743778e33297735c", func := "loop.example/g01398/laws.FnExactTurnedWords", spec := "fnExactTurnedWords", inPlace := ["internal/bytealg.IndexByteString", "internal/bytealg.IndexString"], unfollowed := true, recurses := true, named := ["internal/bytealg.MaxLen", "unicode/utf8.first", "unicode/utf8.acceptRanges"], apart := false, laid := [("unicode/utf8.acceptRanges", laid_unicode_utf8_acceptRanges), ("unicode/utf8.first", laid_unicode_utf8_first)], narrowed := true }
def FnExactTurnedWordsUptoSaid : Prop := fnExactTurnedWordsUptoRow.holds Tryd.pinned (OpenSpec.upto fnExactTurnedWordsSpec)

/-- 'laws.FnExactLongestRow', WHERE WHAT IT READS IS OF BULK AT MOST 1048576: true; the input reads as it did. -/
def fnExactLongestRowUptoRow : OpenClaim := { program := "yteahgkijaehobaadoor", sum := "7b6bc0b518c15ab4a675db58e12cd3d6ce34009b0cd00402743778e33297735c", func := "loop.example/g01398/laws.FnExactLongestRow", spec := "fnExactLongestRow", inPlace := ["internal/bytealg.IndexByteString", "internal/bytealg.IndexString"], unfollowed := true, recurses := true, named := ["internal/bytealg.MaxLen", "unicode/utf8.first", "unicode/utf8.acceptRanges"], apart := false, laid := [("unicode/utf8.acceptRanges", laid_unicode_utf8_acceptRanges), ("unicode/utf8.first", laid_unicode_utf8_first)], narrowed := true }
def FnExactLongestRowUptoSaid : Prop := fnExactLongestRowUptoRow.holds Tryd.pinned (OpenSpec.upto fnExactLongestRowSpec)

end Rows
end Go.Proofs.YteahgkijaehobaaDoor
