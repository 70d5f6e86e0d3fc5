/- What the two looks at a worn word answer: each byte a letter or a point, and at most twenty of them. -/
import Derived.Test.YtebjimbcjigekaaQspecl04Worn
import Derived.Test.YtebjimbcjigekaaQimplisWorn
import Derived.Test.YtebjimbcjigekaaPure
namespace Go.Proofs.Ytebjimbcjigekaa.Q
open Go.RowKit Go.Proofs.YtebjimbcjigekaaW.PrintWords Go.Proofs.YtebjimbcjigekaaW.PrintLast Go.Proofs.YtebjimbcjigekaaW.PrintMore
open Go.Proofs.Ytebjimbcjigekaa.Pure
set_option linter.unusedVariables false

def isL (x : Int) : Bool := decide (65 ≤ x) && decide (x ≤ 90)
theorem spec_l01Letter.val (x : Int) : spec_l01Letter.f x = some (isL x) := by
  unfold spec_l01Letter.f isL
  by_cases h : 65 ≤ x <;> simp [h]
theorem impl_isLetter.val (x : Int) : impl_isLetter.f x = some (isL x) := by
  unfold impl_isLetter.f isL
  by_cases h : 65 ≤ x <;> simp [h]
def wornB (a : ByteArray) : Bool := (List.range a.size).all (fun j => isL (bt a j) || bt a j == 46) && decide ((a.size : Int) ≤ 20)
theorem spec_l04Worn.val (a : ByteArray) (ha : a.size ≤ 9223372036854775807) : spec_l04Worn.f (a.size + 1) a = some (wornB a) := by
  unfold spec_l04Worn.f wornB
  refine scan_all (l := fun k i => spec_l04Worn.l0 k a i) (fun k i hi => ?_) (fun k => ?_) _ (by omega)
  · simp only [spec_l04Worn.l0, spec_l01Letter.val, Option.bind_some]
    rw [if_pos (by omega), if_pos (by omega), wrap_succ hi ha]
    by_cases h1 : bt a i = 46 <;> cases h2 : isL (bt a i) <;> simp [h1]
  · simp [spec_l04Worn.l0]
theorem impl_isWorn.val (a : ByteArray) (ha : a.size ≤ 9223372036854775807) : impl_isWorn.f (a.size + 1) a = some (wornB a) := by
  unfold impl_isWorn.f wornB
  refine scan_all (l := fun k i => impl_isWorn.l0 k a (a.size : Int) i) (fun k i hi => ?_) (fun k => ?_) _ (by omega)
  · simp only [impl_isWorn.l0, impl_isLetter.val, Option.bind_some]
    rw [if_pos (by omega), if_pos (by omega), if_pos (by omega), wrap_succ hi ha]
    by_cases h1 : bt a i = 46 <;> cases h2 : isL (bt a i) <;> simp [h1]
  · simp [impl_isWorn.l0]
end Go.Proofs.Ytebjimbcjigekaa.Q
