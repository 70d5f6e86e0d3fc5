/- What the two looks at a worn word answer: each byte a letter or a point, and at most twenty of them. -/
import Derived.Test.YteahgkijaehobaaDoorQspecl04Worn
import Derived.Test.YteahgkijaehobaaDoorQimplisWorn
import Derived.Test.YteahgkijaehobaaDoorQpureLetter
namespace Go.Proofs.YteahgkijaehobaaDoor.Q
open Go.RowKit Go.Proofs.YteahgkijaehobaaDoorW.PrintWords Go.Proofs.YteahgkijaehobaaDoorW.PrintLast Go.Proofs.YteahgkijaehobaaDoorW.PrintMore
open Go.Proofs.YteahgkijaehobaaDoor.Pure
set_option linter.unusedVariables false

def wornB (a : ByteArray) : Bool := (List.range a.size).all (fun j => isL (bt a j) || bt a j == 46) && decide ((a.size : Int) ≤ 20)
theorem spec_l04Worn.val (a : ByteArray) (ha : a.size ≤ 9223372036854775807) : spec_l04Worn.f (a.size + 1) a = some (wornB a) := by
  unfold spec_l04Worn.f wornB
  refine scan_all (l := fun k i => spec_l04Worn.l0 k a i) (fun k i hi => ?_) (fun k => ?_) _ (by omega)
  · simp only [spec_l04Worn.l0, spec_l01Letter.val, Option.bind_some]
    rw [if_pos (by omega), if_pos (by omega), wrap_succ hi ha]
    by_cases h1 : bt a i = 46 <;> cases h2 : isL (bt a i) <;> simp [h1]
  · simp [spec_l04Worn.l0]
theorem impl_isWorn.val (a : ByteArray) (ha : a.size ≤ 9223372036854775807) : impl_isWorn.f (a.size + 1) a = some (wornB a) := by
  unfold impl_isWorn.f wornB
  refine scan_all (l := fun k i => impl_isWorn.l0 k a (a.size : Int) i) (fun k i hi => ?_) (fun k => ?_) _ (by omega)
  · simp only [impl_isWorn.l0, impl_isLetter.val, Option.bind_some]
    rw [if_pos (by omega), if_pos (by omega), if_pos (by omega), wrap_succ hi ha]
    by_cases h1 : bt a i = 46 <;> cases h2 : isL (bt a i) <;> simp [h1]
  · simp [impl_isWorn.l0]
end Go.Proofs.YteahgkijaehobaaDoor.Q
