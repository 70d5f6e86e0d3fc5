/- strconv.FormatInt at base ten, in the printed form, out of the shelf. -/
import Derived.Test.YtkldhleiipfaaaaDoorQ0
import Derived.Test.YtkldhleiipfaaaaDoorGlobP
import Derived.Lib.AppendIntMem
namespace Go.Proofs.YtkldhleiipfaaaaDoor.Q
open Go.RowKit Go.Proofs.YtkldhleiipfaaaaDoorW.PrintWords Go.Proofs.YtkldhleiipfaaaaDoorW.PrintLast Go.Proofs.YtkldhleiipfaaaaDoorW.PrintMore
set_option linter.unusedVariables false

def strconv_FormatInt_38.f (n b : Int) : Option ByteArray := if b = 10 ∧ -9223372036854775808 ≤ n ∧ n ≤ 9223372036854775807 then some ⟨(Lib.itoa n).toArray⟩ else none
theorem strconv_FormatInt_38.calls (a0 a1 : Int) (r : ByteArray) (w : World) (hG_ : GlobP w) (h : strconv_FormatInt_38.f a0 a1 = some r) :
    Calls Tryd.prog 38 #[.int .i64 a0, .int .i64 a1] w fun e w' => e = .returned (.string r) ∧ Below w.heap.size w w' := by
  unfold strconv_FormatInt_38.f at h
  split at h
  · rename_i hc
    obtain ⟨rfl, h0, h1⟩ := hc
    cases h
    refine (Tryd.strconv_FormatInt_10 a0 h0 h1 w hG_.pow).mono ?_
    rintro e w' ⟨rfl, k, os, rfl⟩
    exact ⟨rfl, Lib.below_grow _ _ (Nat.le_refl _) k os⟩
  · cases h
end Go.Proofs.YtkldhleiipfaaaaDoor.Q
