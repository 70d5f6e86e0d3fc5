/- The law FnExactConstants holds: the program's constants are the reference's. No condition. -/
import Derived.Test.YtebjimbcjigekaaPFnExactConstantsx1
namespace Go.Proofs.Ytebjimbcjigekaa.Pure
open Go.RowKit Go.Proofs.Ytebjimbcjigekaa.PFnExactConstants Go.Proofs.YtebjimbcjigekaaW.PrintWords Go.Proofs.YtebjimbcjigekaaW.PrintLast

theorem FnExactConstants : laws_FnExactConstants.Pure := by
  show laws_FnExactConstants.f = some true
  rfl

end Go.Proofs.Ytebjimbcjigekaa.Pure
