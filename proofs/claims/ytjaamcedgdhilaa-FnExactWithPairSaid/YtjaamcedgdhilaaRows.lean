/-
  No cell of these rows narrows 'for every input' (looked for: loops, veiled, ifaces, maps, wideKeys, modest, calm, conditions, laid).
  DERIVED. THE GIVEN ROWS OF THIS SEAT. 5 by the template 'for every input the law returns true; each argument reads behind the call as it read before'; 0 by the template 'total and deterministic' (their statements: YtjaamcedgdhilaaTotals.lean).
  GIVEN WITH THE SEED: the statements are not yours to turn. If you find one false, say at which input.
  Laid BY PROGRAM, IN A SANDBOX (cutbox-rows.mjs): the forced cells as the released guide's own fill.sh prints them over the translation b6d792e7b655e284… (all of the seat's roots in one cut). By AI agents, Wed Nov 11 2026. No macro, syntax, notation, axiom, sorry.
-/
import Derived.Test.YtjaamcedgdhilaaChecked
import GoSem.Claim
import GoSem.ClaimJoined
import GoSem.ClaimMapViews
import Derived.JoinedTies
import Derived.KernelRfl
namespace Go.Proofs.Ytjaamcedgdhilaa
/- THE CELL 'sum', in the pinned program and in every row, IS THE sha256 OF THE DUMP (.gsa) THAT YtjaamcedgdhilaaProg.lean LOADS. Nothing in Lean hashes anything: it is a label: what it is worth is what the hold of that sum in a sandbox is worth. -/
noncomputable def Try.pinned : Pinned := { name := "ytjaamcedgdhilaa", sum := "b6d792e7b655e284da3402d08d22ffe5acd0bcffa70d43d7a67a5957493a6d31", checked := Try.checked }
namespace Rows
def none {H : Type} : Left H := { results := [], args := [] }

/-- 'laws.FnExactValidFace': WHATEVER THE INPUT: true; the input reads as it did. -/
def fnExactValidFaceSpec : ChangeSpec := { name := "fnExactValidFace", fn := fun _ => fun
  | [d] => { results := [.lit (.bool true)], args := [d] }
  | _ => none }
def fnExactValidFaceRow : OpenClaim := { program := "ytjaamcedgdhilaa", sum := "b6d792e7b655e284da3402d08d22ffe5acd0bcffa70d43d7a67a5957493a6d31", func := "loop.example/g01398/laws.FnExactValidFace", spec := "fnExactValidFace", apart := false }
def FnExactValidFaceSaid : Prop := fnExactValidFaceRow.holds Try.pinned (OpenSpec.ofChange fnExactValidFaceSpec)

/-- ITS FALSE NEIGHBOUR: 'it returns false'. Refute it at one input. -/
def fnExactValidFaceWrong : ChangeSpec := { name := "fnExactValidFace", fn := fun _ => fun
  | [d] => { results := [.lit (.bool false)], args := [d] }
  | _ => none }
def FnExactValidFaceWrongFalsely : Prop := fnExactValidFaceRow.holds Try.pinned (OpenSpec.ofChange fnExactValidFaceWrong)

/-- 'laws.FnExactSameFace': WHATEVER THE INPUT: true; the input reads as it did. -/
def fnExactSameFaceSpec : ChangeSpec := { name := "fnExactSameFace", fn := fun _ => fun
  | [d1, d2] => { results := [.lit (.bool true)], args := [d1, d2] }
  | _ => none }
def fnExactSameFaceRow : OpenClaim := { program := "ytjaamcedgdhilaa", sum := "b6d792e7b655e284da3402d08d22ffe5acd0bcffa70d43d7a67a5957493a6d31", func := "loop.example/g01398/laws.FnExactSameFace", spec := "fnExactSameFace", apart := false }
def FnExactSameFaceSaid : Prop := fnExactSameFaceRow.holds Try.pinned (OpenSpec.ofChange fnExactSameFaceSpec)

/-- ITS FALSE NEIGHBOUR: 'it returns false'. Refute it at one input. -/
def fnExactSameFaceWrong : ChangeSpec := { name := "fnExactSameFace", fn := fun _ => fun
  | [d1, d2] => { results := [.lit (.bool false)], args := [d1, d2] }
  | _ => none }
def FnExactSameFaceWrongFalsely : Prop := fnExactSameFaceRow.holds Try.pinned (OpenSpec.ofChange fnExactSameFaceWrong)

/-- 'laws.FnExactPairBy': WHATEVER THE INPUT: true; the input reads as it did. -/
def fnExactPairBySpec : ChangeSpec := { name := "fnExactPairBy", fn := fun _ => fun
  | [d1, d2, d3] => { results := [.lit (.bool true)], args := [d1, d2, d3] }
  | _ => none }
def fnExactPairByRow : OpenClaim := { program := "ytjaamcedgdhilaa", sum := "b6d792e7b655e284da3402d08d22ffe5acd0bcffa70d43d7a67a5957493a6d31", func := "loop.example/g01398/laws.FnExactPairBy", spec := "fnExactPairBy", apart := false }
def FnExactPairBySaid : Prop := fnExactPairByRow.holds Try.pinned (OpenSpec.ofChange fnExactPairBySpec)

/-- ITS FALSE NEIGHBOUR: 'it returns false'. Refute it at one input. -/
def fnExactPairByWrong : ChangeSpec := { name := "fnExactPairBy", fn := fun _ => fun
  | [d1, d2, d3] => { results := [.lit (.bool false)], args := [d1, d2, d3] }
  | _ => none }
def FnExactPairByWrongFalsely : Prop := fnExactPairByRow.holds Try.pinned (OpenSpec.ofChange fnExactPairByWrong)

/-- 'laws.FnExactLoosenFace': WHATEVER THE INPUT: true; the input reads as it did. -/
def fnExactLoosenFaceSpec : ChangeSpec := { name := "fnExactLoosenFace", fn := fun _ => fun
  | [d1, d2] => { results := [.lit (.bool true)], args := [d1, d2] }
  | _ => none }
def fnExactLoosenFaceRow : OpenClaim := { program := "ytjaamcedgdhilaa", sum := "b6d792e7b655e284da3402d08d22ffe5acd0bcffa70d43d7a67a5957493a6d31", func := "loop.example/g01398/laws.FnExactLoosenFace", spec := "fnExactLoosenFace", apart := false }
def FnExactLoosenFaceSaid : Prop := fnExactLoosenFaceRow.holds Try.pinned (OpenSpec.ofChange fnExactLoosenFaceSpec)

/-- ITS FALSE NEIGHBOUR: 'it returns false'. Refute it at one input. -/
def fnExactLoosenFaceWrong : ChangeSpec := { name := "fnExactLoosenFace", fn := fun _ => fun
  | [d1, d2] => { results := [.lit (.bool false)], args := [d1, d2] }
  | _ => none }
def FnExactLoosenFaceWrongFalsely : Prop := fnExactLoosenFaceRow.holds Try.pinned (OpenSpec.ofChange fnExactLoosenFaceWrong)

/-- 'laws.FnExactWithPair': WHATEVER THE INPUT: true; the input reads as it did. -/
def fnExactWithPairSpec : ChangeSpec := { name := "fnExactWithPair", fn := fun _ => fun
  | [d1, d2] => { results := [.lit (.bool true)], args := [d1, d2] }
  | _ => none }
def fnExactWithPairRow : OpenClaim := { program := "ytjaamcedgdhilaa", sum := "b6d792e7b655e284da3402d08d22ffe5acd0bcffa70d43d7a67a5957493a6d31", func := "loop.example/g01398/laws.FnExactWithPair", spec := "fnExactWithPair", unfollowed := true, recurses := true, apart := false }
def FnExactWithPairSaid : Prop := fnExactWithPairRow.holds Try.pinned (OpenSpec.ofChange fnExactWithPairSpec)

/-- ITS FALSE NEIGHBOUR: 'it returns false'. Refute it at one input. -/
def fnExactWithPairWrong : ChangeSpec := { name := "fnExactWithPair", fn := fun _ => fun
  | [d1, d2] => { results := [.lit (.bool false)], args := [d1, d2] }
  | _ => none }
def FnExactWithPairWrongFalsely : Prop := fnExactWithPairRow.holds Try.pinned (OpenSpec.ofChange fnExactWithPairWrong)

/- THE SECOND FORM. 'bulk': how many values and letters a reading holds, each counted each time it is reached (what is shared counts as often as it is met; a slice's spare places count too). A statement '..UptoSaid' is the law's where the arguments, and the package variables that the reading takes, are together of bulk at most 1048576: NARROWER than '..Said'. Prove '..Said' where nothing that the law and all that it calls make is longer than what came in: it says more and counts as full. Else prove '..UptoSaid'. A law counts once. -/
mutual
def uptoBulk {H : Type} : DataW H → Nat
  | .lit (.string bytes) => bytes.length + 1
  | .lit _ => 1
  | .nil => 1
  | .ptr d => uptoBulk d + 1
  | .slice elems spare => uptoBulkAll elems + uptoBulkAll spare + 1
  | .agg parts => uptoBulkAll parts + 1
  | .iface _ d => uptoBulk d + 1
  | .map entries => uptoBulkEntries entries + 1
  | .held _ => 1
def uptoBulkAll {H : Type} : List (DataW H) → Nat
  | [] => 0
  | d :: r => uptoBulk d + uptoBulkAll r
def uptoBulkEntries {H : Type} : List (Lit × DataW H) → Nat
  | [] => 0
  | x :: r => uptoBulkEntry x + uptoBulkEntries r
def uptoBulkEntry {H : Type} : Lit × DataW H → Nat
  | (.string bytes, d) => bytes.length + uptoBulk d + 1
  | (_, d) => uptoBulk d + 1
 end
def uptoSmall : (H : Type) → List (DataW H) → Bool := fun _ ds => decide (uptoBulkAll ds ≤ 1048576)
def OpenSpec.upto (s : _root_.Go.ChangeSpec) : _root_.Go.OpenSpec := { _root_.Go.OpenSpec.ofChange s with cond := some uptoSmall }

/-- 'laws.FnExactValidFace', WHERE WHAT IT READS IS OF BULK AT MOST 1048576: true; the input reads as it did. -/
def fnExactValidFaceUptoRow : OpenClaim := { program := "ytjaamcedgdhilaa", sum := "b6d792e7b655e284da3402d08d22ffe5acd0bcffa70d43d7a67a5957493a6d31", func := "loop.example/g01398/laws.FnExactValidFace", spec := "fnExactValidFace", apart := false, narrowed := true }
def FnExactValidFaceUptoSaid : Prop := fnExactValidFaceUptoRow.holds Try.pinned (OpenSpec.upto fnExactValidFaceSpec)

/-- 'laws.FnExactSameFace', WHERE WHAT IT READS IS OF BULK AT MOST 1048576: true; the input reads as it did. -/
def fnExactSameFaceUptoRow : OpenClaim := { program := "ytjaamcedgdhilaa", sum := "b6d792e7b655e284da3402d08d22ffe5acd0bcffa70d43d7a67a5957493a6d31", func := "loop.example/g01398/laws.FnExactSameFace", spec := "fnExactSameFace", apart := false, narrowed := true }
def FnExactSameFaceUptoSaid : Prop := fnExactSameFaceUptoRow.holds Try.pinned (OpenSpec.upto fnExactSameFaceSpec)

/-- 'laws.FnExactPairBy', WHERE WHAT IT READS IS OF BULK AT MOST 1048576: true; the input reads as it did. -/
def fnExactPairByUptoRow : OpenClaim := { program := "ytjaamcedgdhilaa", sum := "b6d792e7b655e284da3402d08d22ffe5acd0bcffa70d43d7a67a5957493a6d31", func := "loop.example/g01398/laws.FnExactPairBy", spec := "fnExactPairBy", apart := false, narrowed := true }
def FnExactPairByUptoSaid : Prop := fnExactPairByUptoRow.holds Try.pinned (OpenSpec.upto fnExactPairBySpec)

/-- 'laws.FnExactLoosenFace', WHERE WHAT IT READS IS OF BULK AT MOST 1048576: true; the input reads as it did. -/
def fnExactLoosenFaceUptoRow : OpenClaim := { program := "ytjaamcedgdhilaa", sum := "b6d792e7b655e284da3402d08d22ffe5acd0bcffa70d43d7a67a5957493a6d31", func := "loop.example/g01398/laws.FnExactLoosenFace", spec := "fnExactLoosenFace", apart := false, narrowed := true }
def FnExactLoosenFaceUptoSaid : Prop := fnExactLoosenFaceUptoRow.holds Try.pinned (OpenSpec.upto fnExactLoosenFaceSpec)

/-- 'laws.FnExactWithPair', WHERE WHAT IT READS IS OF BULK AT MOST 1048576: true; the input reads as it did. -/
def fnExactWithPairUptoRow : OpenClaim := { program := "ytjaamcedgdhilaa", sum := "b6d792e7b655e284da3402d08d22ffe5acd0bcffa70d43d7a67a5957493a6d31", func := "loop.example/g01398/laws.FnExactWithPair", spec := "fnExactWithPair", unfollowed := true, recurses := true, apart := false, narrowed := true }
def FnExactWithPairUptoSaid : Prop := fnExactWithPairUptoRow.holds Try.pinned (OpenSpec.upto fnExactWithPairSpec)

end Rows
end Go.Proofs.Ytjaamcedgdhilaa
