/- What the two looks at a letter answer. -/
import Derived.Test.YtiapaggkbhdnkaaDoorQspecl01Letter
import Derived.Test.YtiapaggkbhdnkaaDoorQimplisLetter
import Derived.Test.YtiapaggkbhdnkaaDoorBase
namespace Go.Proofs.YtiapaggkbhdnkaaDoor.Q
open Go.RowKit Go.Proofs.YtiapaggkbhdnkaaDoorW.PrintWords Go.Proofs.YtiapaggkbhdnkaaDoorW.PrintLast Go.Proofs.YtiapaggkbhdnkaaDoorW.PrintMore
open Go.Proofs.YtiapaggkbhdnkaaDoor.Pure
set_option linter.unusedVariables false

def isL (x : Int) : Bool := decide (65 ≤ x) && decide (x ≤ 90)
theorem spec_l01Letter.val (x : Int) : spec_l01Letter.f x = some (isL x) := by
  unfold spec_l01Letter.f isL
  by_cases h : 65 ≤ x <;> simp [h]
theorem impl_isLetter.val (x : Int) : impl_isLetter.f x = some (isL x) := by
  unfold impl_isLetter.f isL
  by_cases h : 65 ≤ x <;> simp [h]
end Go.Proofs.YtiapaggkbhdnkaaDoor.Q
