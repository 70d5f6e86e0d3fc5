/- The law FnExactCodeName holds: for every code the program's CodeName gives the reference's text. No condition. -/
import Derived.Test.YtebjimbcjigekaaPFnExactCodeNamex1
namespace Go.Proofs.Ytebjimbcjigekaa.Pure
open Go.RowKit Go.Proofs.Ytebjimbcjigekaa.PFnExactCodeName Go.Proofs.YtebjimbcjigekaaW.PrintWords Go.Proofs.YtebjimbcjigekaaW.PrintLast

theorem FnExactCodeName : laws_FnExactCodeName.Pure := by
  intro a0 _
  unfold laws_FnExactCodeName.f spec_CodeName.f impl_CodeName.f spec_l00In.f impl_within.f impl_size_string.f
  have hw : wrap64 8 = 8 := by unfold wrap64; omega
  by_cases h0 : 0 ≤ a0
  · by_cases h8 : a0 ≤ 8
    · have h9 : a0 < 9 := by omega
      simp [h0, h8, h9, hw]
    · simp [h0, h8, hw]
  · simp [h0]

end Go.Proofs.Ytebjimbcjigekaa.Pure
