/- The law ValidText holds. -/
import Derived.Test.YtopgdkhdlpbjmaaDoorQlawsFnExactValidText
import Derived.Test.YtopgdkhdlpbjmaaDoorQpureText
namespace Go.Proofs.YtopgdkhdlpbjmaaDoor.Q
open Go.RowKit Go.Proofs.YtopgdkhdlpbjmaaDoorW.PrintWords Go.Proofs.YtopgdkhdlpbjmaaDoorW.PrintLast Go.Proofs.YtopgdkhdlpbjmaaDoorW.PrintMore
open Go.Proofs.YtopgdkhdlpbjmaaDoor.Pure
set_option linter.unusedVariables false

theorem laws_FnExactValidText.holds (a : ByteArray) (W : World) (hG : Glob W) (ha : a.size ≤ 9223372036854775807) :
    Calls Tryd.prog 3 #[.string a] W fun e w' => e = .returned (.bool true) ∧ Below W.heap.size W w' := by
  refine laws_FnExactValidText.calls (a.size + 1) a true W hG ?_
  unfold laws_FnExactValidText.f
  by_cases h : (a.size : Int) > 1048576
  · rw [if_pos h]
  rw [if_neg h]
  unfold spec_ValidText.f
  rw [spec_l01Text.val a (by omega), impl_ValidText.val a (by omega)]
  simp
end Go.Proofs.YtopgdkhdlpbjmaaDoor.Q
