/- What the two looks at a letter answer. -/
import Derived.Test.YtfgifjdapojheaaDoorQspecl01Letter
import Derived.Test.YtfgifjdapojheaaDoorQimplisLetter
import Derived.Test.YtfgifjdapojheaaDoorPure
namespace Go.Proofs.YtfgifjdapojheaaDoor.Q
open Go.RowKit Go.Proofs.YtfgifjdapojheaaDoorW.PrintWords Go.Proofs.YtfgifjdapojheaaDoorW.PrintLast Go.Proofs.YtfgifjdapojheaaDoorW.PrintMore
open Go.Proofs.YtfgifjdapojheaaDoor.Pure
set_option linter.unusedVariables false

def isL (x : Int) : Bool := decide (65 ≤ x) && decide (x ≤ 90)
theorem spec_l01Letter.val (x : Int) : spec_l01Letter.f x = some (isL x) := by
  unfold spec_l01Letter.f isL
  by_cases h : 65 ≤ x <;> simp [h]
theorem impl_isLetter.val (x : Int) : impl_isLetter.f x = some (isL x) := by
  unfold impl_isLetter.f isL
  by_cases h : 65 ≤ x <;> simp [h]
end Go.Proofs.YtfgifjdapojheaaDoor.Q
