/-
  No cell of these rows narrows 'for every input' (looked for: loops, veiled, ifaces, maps, wideKeys, modest, calm, conditions, laid).
  DERIVED. THE GIVEN ROWS OF THIS SEAT. 9 by the template 'for every input the law returns true; each argument reads behind the call as it read before'; 0 by the template 'total and deterministic' (their statements: YtcaidohboacokaaTotals.lean).
  GIVEN WITH THE SEED: the statements are not yours to turn. If you find one false, say at which input.
  Laid BY PROGRAM, IN A SANDBOX (cutbox-rows.mjs): the forced cells as the released guide's own fill.sh prints them over the translation e5ccfe5ec35e7e7c… (all of the seat's roots in one cut). By AI agents, Wed Nov 11 2026. No macro, syntax, notation, axiom, sorry.
-/
import Derived.Test.YtcaidohboacokaaChecked
import GoSem.Claim
import GoSem.ClaimJoined
import GoSem.ClaimMapViews
import Derived.JoinedTies
import Derived.KernelRfl
namespace Go.Proofs.Ytcaidohboacokaa
/- THE CELL 'sum', in the pinned program and in every row, IS THE sha256 OF THE DUMP (.gsa) THAT YtcaidohboacokaaProg.lean LOADS. Nothing in Lean hashes anything: it is a label: what it is worth is what the hold of that sum in a sandbox is worth. -/
noncomputable def Try.pinned : Pinned := { name := "ytcaidohboacokaa", sum := "e5ccfe5ec35e7e7c0842eca7b41dcefb5e90fe5ab655ab5f42ced5326dcb03e6", checked := Try.checked }
namespace Rows
def none {H : Type} : Left H := { results := [], args := [] }

/-- 'laws.FnExactOldSystem': WHATEVER THE INPUT: true; the input reads as it did. -/
def fnExactOldSystemSpec : ChangeSpec := { name := "fnExactOldSystem", fn := fun _ => fun
  | [d] => { results := [.lit (.bool true)], args := [d] }
  | _ => none }
def fnExactOldSystemRow : OpenClaim := { program := "ytcaidohboacokaa", sum := "e5ccfe5ec35e7e7c0842eca7b41dcefb5e90fe5ab655ab5f42ced5326dcb03e6", func := "loop.example/g01398/laws.FnExactOldSystem", spec := "fnExactOldSystem", plainKeys := false, apart := false }
def FnExactOldSystemSaid : Prop := fnExactOldSystemRow.holds Try.pinned (OpenSpec.ofChange fnExactOldSystemSpec)

/-- ITS FALSE NEIGHBOUR: 'it returns false'. Refute it at one input. -/
def fnExactOldSystemWrong : ChangeSpec := { name := "fnExactOldSystem", fn := fun _ => fun
  | [d] => { results := [.lit (.bool false)], args := [d] }
  | _ => none }
def FnExactOldSystemWrongFalsely : Prop := fnExactOldSystemRow.holds Try.pinned (OpenSpec.ofChange fnExactOldSystemWrong)

/-- 'laws.FnExactSameSystem': WHATEVER THE INPUT: true; the input reads as it did. -/
def fnExactSameSystemSpec : ChangeSpec := { name := "fnExactSameSystem", fn := fun _ => fun
  | [d1, d2] => { results := [.lit (.bool true)], args := [d1, d2] }
  | _ => none }
def fnExactSameSystemRow : OpenClaim := { program := "ytcaidohboacokaa", sum := "e5ccfe5ec35e7e7c0842eca7b41dcefb5e90fe5ab655ab5f42ced5326dcb03e6", func := "loop.example/g01398/laws.FnExactSameSystem", spec := "fnExactSameSystem", plainKeys := false, apart := false }
def FnExactSameSystemSaid : Prop := fnExactSameSystemRow.holds Try.pinned (OpenSpec.ofChange fnExactSameSystemSpec)

/-- ITS FALSE NEIGHBOUR: 'it returns false'. Refute it at one input. -/
def fnExactSameSystemWrong : ChangeSpec := { name := "fnExactSameSystem", fn := fun _ => fun
  | [d1, d2] => { results := [.lit (.bool false)], args := [d1, d2] }
  | _ => none }
def FnExactSameSystemWrongFalsely : Prop := fnExactSameSystemRow.holds Try.pinned (OpenSpec.ofChange fnExactSameSystemWrong)

/-- 'laws.FnExactValidSystem': WHATEVER THE INPUT: true; the input reads as it did. -/
def fnExactValidSystemSpec : ChangeSpec := { name := "fnExactValidSystem", fn := fun _ => fun
  | [d] => { results := [.lit (.bool true)], args := [d] }
  | _ => none }
def fnExactValidSystemRow : OpenClaim := { program := "ytcaidohboacokaa", sum := "e5ccfe5ec35e7e7c0842eca7b41dcefb5e90fe5ab655ab5f42ced5326dcb03e6", func := "loop.example/g01398/laws.FnExactValidSystem", spec := "fnExactValidSystem", unfollowed := true, recurses := true, plainKeys := false, apart := false }
def FnExactValidSystemSaid : Prop := fnExactValidSystemRow.holds Try.pinned (OpenSpec.ofChange fnExactValidSystemSpec)

/-- ITS FALSE NEIGHBOUR: 'it returns false'. Refute it at one input. -/
def fnExactValidSystemWrong : ChangeSpec := { name := "fnExactValidSystem", fn := fun _ => fun
  | [d] => { results := [.lit (.bool false)], args := [d] }
  | _ => none }
def FnExactValidSystemWrongFalsely : Prop := fnExactValidSystemRow.holds Try.pinned (OpenSpec.ofChange fnExactValidSystemWrong)

/-- 'laws.FnExactPlainSystem': WHATEVER THE INPUT: true; the input reads as it did. -/
def fnExactPlainSystemSpec : ChangeSpec := { name := "fnExactPlainSystem", fn := fun _ => fun
  | [d] => { results := [.lit (.bool true)], args := [d] }
  | _ => none }
def fnExactPlainSystemRow : OpenClaim := { program := "ytcaidohboacokaa", sum := "e5ccfe5ec35e7e7c0842eca7b41dcefb5e90fe5ab655ab5f42ced5326dcb03e6", func := "loop.example/g01398/laws.FnExactPlainSystem", spec := "fnExactPlainSystem", unfollowed := true, recurses := true, plainKeys := false, apart := false }
def FnExactPlainSystemSaid : Prop := fnExactPlainSystemRow.holds Try.pinned (OpenSpec.ofChange fnExactPlainSystemSpec)

/-- ITS FALSE NEIGHBOUR: 'it returns false'. Refute it at one input. -/
def fnExactPlainSystemWrong : ChangeSpec := { name := "fnExactPlainSystem", fn := fun _ => fun
  | [d] => { results := [.lit (.bool false)], args := [d] }
  | _ => none }
def FnExactPlainSystemWrongFalsely : Prop := fnExactPlainSystemRow.holds Try.pinned (OpenSpec.ofChange fnExactPlainSystemWrong)

/-- 'laws.FnExactGreedyFor': WHATEVER THE INPUT: true; the input reads as it did. -/
def fnExactGreedyForSpec : ChangeSpec := { name := "fnExactGreedyFor", fn := fun _ => fun
  | [d1, d2] => { results := [.lit (.bool true)], args := [d1, d2] }
  | _ => none }
def fnExactGreedyForRow : OpenClaim := { program := "ytcaidohboacokaa", sum := "e5ccfe5ec35e7e7c0842eca7b41dcefb5e90fe5ab655ab5f42ced5326dcb03e6", func := "loop.example/g01398/laws.FnExactGreedyFor", spec := "fnExactGreedyFor", unfollowed := true, recurses := true, plainKeys := false, apart := false }
def FnExactGreedyForSaid : Prop := fnExactGreedyForRow.holds Try.pinned (OpenSpec.ofChange fnExactGreedyForSpec)

/-- ITS FALSE NEIGHBOUR: 'it returns false'. Refute it at one input. -/
def fnExactGreedyForWrong : ChangeSpec := { name := "fnExactGreedyFor", fn := fun _ => fun
  | [d1, d2] => { results := [.lit (.bool false)], args := [d1, d2] }
  | _ => none }
def FnExactGreedyForWrongFalsely : Prop := fnExactGreedyForRow.holds Try.pinned (OpenSpec.ofChange fnExactGreedyForWrong)

/-- 'laws.FnExactValueOf': WHATEVER THE INPUT: true; the input reads as it did. -/
def fnExactValueOfSpec : ChangeSpec := { name := "fnExactValueOf", fn := fun _ => fun
  | [d1, d2] => { results := [.lit (.bool true)], args := [d1, d2] }
  | _ => none }
def fnExactValueOfRow : OpenClaim := { program := "ytcaidohboacokaa", sum := "e5ccfe5ec35e7e7c0842eca7b41dcefb5e90fe5ab655ab5f42ced5326dcb03e6", func := "loop.example/g01398/laws.FnExactValueOf", spec := "fnExactValueOf", unfollowed := true, recurses := true, plainKeys := false, apart := false }
def FnExactValueOfSaid : Prop := fnExactValueOfRow.holds Try.pinned (OpenSpec.ofChange fnExactValueOfSpec)

/-- ITS FALSE NEIGHBOUR: 'it returns false'. Refute it at one input. -/
def fnExactValueOfWrong : ChangeSpec := { name := "fnExactValueOf", fn := fun _ => fun
  | [d1, d2] => { results := [.lit (.bool false)], args := [d1, d2] }
  | _ => none }
def FnExactValueOfWrongFalsely : Prop := fnExactValueOfRow.holds Try.pinned (OpenSpec.ofChange fnExactValueOfWrong)

/-- 'laws.FnExactIsRight': WHATEVER THE INPUT: true; the input reads as it did. -/
def fnExactIsRightSpec : ChangeSpec := { name := "fnExactIsRight", fn := fun _ => fun
  | [d1, d2] => { results := [.lit (.bool true)], args := [d1, d2] }
  | _ => none }
def fnExactIsRightRow : OpenClaim := { program := "ytcaidohboacokaa", sum := "e5ccfe5ec35e7e7c0842eca7b41dcefb5e90fe5ab655ab5f42ced5326dcb03e6", func := "loop.example/g01398/laws.FnExactIsRight", spec := "fnExactIsRight", unfollowed := true, recurses := true, plainKeys := false, apart := false }
def FnExactIsRightSaid : Prop := fnExactIsRightRow.holds Try.pinned (OpenSpec.ofChange fnExactIsRightSpec)

/-- ITS FALSE NEIGHBOUR: 'it returns false'. Refute it at one input. -/
def fnExactIsRightWrong : ChangeSpec := { name := "fnExactIsRight", fn := fun _ => fun
  | [d1, d2] => { results := [.lit (.bool false)], args := [d1, d2] }
  | _ => none }
def FnExactIsRightWrongFalsely : Prop := fnExactIsRightRow.holds Try.pinned (OpenSpec.ofChange fnExactIsRightWrong)

/-- 'laws.FnExactCountRight': WHATEVER THE INPUT: true; the input reads as it did. -/
def fnExactCountRightSpec : ChangeSpec := { name := "fnExactCountRight", fn := fun _ => fun
  | [d1, d2, d3] => { results := [.lit (.bool true)], args := [d1, d2, d3] }
  | _ => none }
def fnExactCountRightRow : OpenClaim := { program := "ytcaidohboacokaa", sum := "e5ccfe5ec35e7e7c0842eca7b41dcefb5e90fe5ab655ab5f42ced5326dcb03e6", func := "loop.example/g01398/laws.FnExactCountRight", spec := "fnExactCountRight", unfollowed := true, recurses := true, plainKeys := false, apart := false }
def FnExactCountRightSaid : Prop := fnExactCountRightRow.holds Try.pinned (OpenSpec.ofChange fnExactCountRightSpec)

/-- ITS FALSE NEIGHBOUR: 'it returns false'. Refute it at one input. -/
def fnExactCountRightWrong : ChangeSpec := { name := "fnExactCountRight", fn := fun _ => fun
  | [d1, d2, d3] => { results := [.lit (.bool false)], args := [d1, d2, d3] }
  | _ => none }
def FnExactCountRightWrongFalsely : Prop := fnExactCountRightRow.holds Try.pinned (OpenSpec.ofChange fnExactCountRightWrong)

/-- 'laws.FnExactPartsOf': WHATEVER THE INPUT: true; the input reads as it did. -/
def fnExactPartsOfSpec : ChangeSpec := { name := "fnExactPartsOf", fn := fun _ => fun
  | [d1, d2] => { results := [.lit (.bool true)], args := [d1, d2] }
  | _ => none }
def fnExactPartsOfRow : OpenClaim := { program := "ytcaidohboacokaa", sum := "e5ccfe5ec35e7e7c0842eca7b41dcefb5e90fe5ab655ab5f42ced5326dcb03e6", func := "loop.example/g01398/laws.FnExactPartsOf", spec := "fnExactPartsOf", unfollowed := true, recurses := true, plainKeys := false, apart := false }
def FnExactPartsOfSaid : Prop := fnExactPartsOfRow.holds Try.pinned (OpenSpec.ofChange fnExactPartsOfSpec)

/-- ITS FALSE NEIGHBOUR: 'it returns false'. Refute it at one input. -/
def fnExactPartsOfWrong : ChangeSpec := { name := "fnExactPartsOf", fn := fun _ => fun
  | [d1, d2] => { results := [.lit (.bool false)], args := [d1, d2] }
  | _ => none }
def FnExactPartsOfWrongFalsely : Prop := fnExactPartsOfRow.holds Try.pinned (OpenSpec.ofChange fnExactPartsOfWrong)

/- THE SECOND FORM. 'bulk': how many values and letters a reading holds, each counted each time it is reached (what is shared counts as often as it is met; a slice's spare places count too). A statement '..UptoSaid' is the law's where the arguments, and the package variables that the reading takes, are together of bulk at most 1048576: NARROWER than '..Said'. Prove '..Said' where nothing that the law and all that it calls make is longer than what came in: it says more and counts as full. Else prove '..UptoSaid'. A law counts once. -/
mutual
def uptoBulk {H : Type} : DataW H → Nat
  | .lit (.string bytes) => bytes.length + 1
  | .lit _ => 1
  | .nil => 1
  | .ptr d => uptoBulk d + 1
  | .slice elems spare => uptoBulkAll elems + uptoBulkAll spare + 1
  | .agg parts => uptoBulkAll parts + 1
  | .iface _ d => uptoBulk d + 1
  | .map entries => uptoBulkEntries entries + 1
  | .held _ => 1
def uptoBulkAll {H : Type} : List (DataW H) → Nat
  | [] => 0
  | d :: r => uptoBulk d + uptoBulkAll r
def uptoBulkEntries {H : Type} : List (Lit × DataW H) → Nat
  | [] => 0
  | x :: r => uptoBulkEntry x + uptoBulkEntries r
def uptoBulkEntry {H : Type} : Lit × DataW H → Nat
  | (.string bytes, d) => bytes.length + uptoBulk d + 1
  | (_, d) => uptoBulk d + 1
 end
def uptoSmall : (H : Type) → List (DataW H) → Bool := fun _ ds => decide (uptoBulkAll ds ≤ 1048576)
def OpenSpec.upto (s : _root_.Go.ChangeSpec) : _root_.Go.OpenSpec := { _root_.Go.OpenSpec.ofChange s with cond := some uptoSmall }

/-- 'laws.FnExactOldSystem', WHERE WHAT IT READS IS OF BULK AT MOST 1048576: true; the input reads as it did. -/
def fnExactOldSystemUptoRow : OpenClaim := { program := "ytcaidohboacokaa", sum := "e5ccfe5ec35e7e7c0842eca7b41dcefb5e90fe5ab655ab5f42ced5326dcb03e6", func := "loop.example/g01398/laws.FnExactOldSystem", spec := "fnExactOldSystem", plainKeys := false, apart := false, narrowed := true }
def FnExactOldSystemUptoSaid : Prop := fnExactOldSystemUptoRow.holds Try.pinned (OpenSpec.upto fnExactOldSystemSpec)

/-- 'laws.FnExactSameSystem', WHERE WHAT IT READS IS OF BULK AT MOST 1048576: true; the input reads as it did. -/
def fnExactSameSystemUptoRow : OpenClaim := { program := "ytcaidohboacokaa", sum := "e5ccfe5ec35e7e7c0842eca7b41dcefb5e90fe5ab655ab5f42ced5326dcb03e6", func := "loop.example/g01398/laws.FnExactSameSystem", spec := "fnExactSameSystem", plainKeys := false, apart := false, narrowed := true }
def FnExactSameSystemUptoSaid : Prop := fnExactSameSystemUptoRow.holds Try.pinned (OpenSpec.upto fnExactSameSystemSpec)

/-- 'laws.FnExactValidSystem', WHERE WHAT IT READS IS OF BULK AT MOST 1048576: true; the input reads as it did. -/
def fnExactValidSystemUptoRow : OpenClaim := { program := "ytcaidohboacokaa", sum := "e5ccfe5ec35e7e7c0842eca7b41dcefb5e90fe5ab655ab5f42ced5326dcb03e6", func := "loop.example/g01398/laws.FnExactValidSystem", spec := "fnExactValidSystem", unfollowed := true, recurses := true, plainKeys := false, apart := false, narrowed := true }
def FnExactValidSystemUptoSaid : Prop := fnExactValidSystemUptoRow.holds Try.pinned (OpenSpec.upto fnExactValidSystemSpec)

/-- 'laws.FnExactPlainSystem', WHERE WHAT IT READS IS OF BULK AT MOST 1048576: true; the input reads as it did. -/
def fnExactPlainSystemUptoRow : OpenClaim := { program := "ytcaidohboacokaa", sum := "e5ccfe5ec35e7e7c0842eca7b41dcefb5e90fe5ab655ab5f42ced5326dcb03e6", func := "loop.example/g01398/laws.FnExactPlainSystem", spec := "fnExactPlainSystem", unfollowed := true, recurses := true, plainKeys := false, apart := false, narrowed := true }
def FnExactPlainSystemUptoSaid : Prop := fnExactPlainSystemUptoRow.holds Try.pinned (OpenSpec.upto fnExactPlainSystemSpec)

/-- 'laws.FnExactGreedyFor', WHERE WHAT IT READS IS OF BULK AT MOST 1048576: true; the input reads as it did. -/
def fnExactGreedyForUptoRow : OpenClaim := { program := "ytcaidohboacokaa", sum := "e5ccfe5ec35e7e7c0842eca7b41dcefb5e90fe5ab655ab5f42ced5326dcb03e6", func := "loop.example/g01398/laws.FnExactGreedyFor", spec := "fnExactGreedyFor", unfollowed := true, recurses := true, plainKeys := false, apart := false, narrowed := true }
def FnExactGreedyForUptoSaid : Prop := fnExactGreedyForUptoRow.holds Try.pinned (OpenSpec.upto fnExactGreedyForSpec)

/-- 'laws.FnExactValueOf', WHERE WHAT IT READS IS OF BULK AT MOST 1048576: true; the input reads as it did. -/
def fnExactValueOfUptoRow : OpenClaim := { program := "ytcaidohboacokaa", sum := "e5ccfe5ec35e7e7c0842eca7b41dcefb5e90fe5ab655ab5f42ced5326dcb03e6", func := "loop.example/g01398/laws.FnExactValueOf", spec := "fnExactValueOf", unfollowed := true, recurses := true, plainKeys := false, apart := false, narrowed := true }
def FnExactValueOfUptoSaid : Prop := fnExactValueOfUptoRow.holds Try.pinned (OpenSpec.upto fnExactValueOfSpec)

/-- 'laws.FnExactIsRight', WHERE WHAT IT READS IS OF BULK AT MOST 1048576: true; the input reads as it did. -/
def fnExactIsRightUptoRow : OpenClaim := { program := "ytcaidohboacokaa", sum := "e5ccfe5ec35e7e7c0842eca7b41dcefb5e90fe5ab655ab5f42ced5326dcb03e6", func := "loop.example/g01398/laws.FnExactIsRight", spec := "fnExactIsRight", unfollowed := true, recurses := true, plainKeys := false, apart := false, narrowed := true }
def FnExactIsRightUptoSaid : Prop := fnExactIsRightUptoRow.holds Try.pinned (OpenSpec.upto fnExactIsRightSpec)

/-- 'laws.FnExactCountRight', WHERE WHAT IT READS IS OF BULK AT MOST 1048576: true; the input reads as it did. -/
def fnExactCountRightUptoRow : OpenClaim := { program := "ytcaidohboacokaa", sum := "e5ccfe5ec35e7e7c0842eca7b41dcefb5e90fe5ab655ab5f42ced5326dcb03e6", func := "loop.example/g01398/laws.FnExactCountRight", spec := "fnExactCountRight", unfollowed := true, recurses := true, plainKeys := false, apart := false, narrowed := true }
def FnExactCountRightUptoSaid : Prop := fnExactCountRightUptoRow.holds Try.pinned (OpenSpec.upto fnExactCountRightSpec)

/-- 'laws.FnExactPartsOf', WHERE WHAT IT READS IS OF BULK AT MOST 1048576: true; the input reads as it did. -/
def fnExactPartsOfUptoRow : OpenClaim := { program := "ytcaidohboacokaa", sum := "e5ccfe5ec35e7e7c0842eca7b41dcefb5e90fe5ab655ab5f42ced5326dcb03e6", func := "loop.example/g01398/laws.FnExactPartsOf", spec := "fnExactPartsOf", unfollowed := true, recurses := true, plainKeys := false, apart := false, narrowed := true }
def FnExactPartsOfUptoSaid : Prop := fnExactPartsOfUptoRow.holds Try.pinned (OpenSpec.upto fnExactPartsOfSpec)

end Rows
end Go.Proofs.Ytcaidohboacokaa
