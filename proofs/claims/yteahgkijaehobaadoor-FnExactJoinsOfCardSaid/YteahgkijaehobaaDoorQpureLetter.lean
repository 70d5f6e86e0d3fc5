/- What the two looks at a letter answer. -/
import Derived.Test.YteahgkijaehobaaDoorQText
import Derived.Test.YteahgkijaehobaaDoorBase
namespace Go.Proofs.YteahgkijaehobaaDoor.Q
open Go.RowKit Go.Proofs.YteahgkijaehobaaDoorW.PrintWords Go.Proofs.YteahgkijaehobaaDoorW.PrintLast Go.Proofs.YteahgkijaehobaaDoorW.PrintMore
open Go.Proofs.YteahgkijaehobaaDoor.Pure
set_option linter.unusedVariables false

def isL (x : Int) : Bool := decide (65 ≤ x) && decide (x ≤ 90)
theorem spec_l01Letter.val (x : Int) : spec_l01Letter.f x = some (isL x) := by
  unfold spec_l01Letter.f isL
  by_cases h : 65 ≤ x <;> simp [h]
theorem impl_isLetter.val (x : Int) : impl_isLetter.f x = some (isL x) := by
  unfold impl_isLetter.f isL
  by_cases h : 65 ≤ x <;> simp [h]
end Go.Proofs.YteahgkijaehobaaDoor.Q
