/- The law OldSystem holds: reckoned for both arguments; no condition. -/
import Derived.Test.YtcaidohboacokaaQlawsFnExactOldSystem
import Derived.KernelRfl
namespace Go.Proofs.Ytcaidohboacokaa.Q
open Go.RowKit Go.Proofs.YtcaidohboacokaaW.PrintWords
set_option linter.unusedVariables false
theorem laws_FnExactOldSystem.pure (a0 : Bool) : laws_FnExactOldSystem.f 60 a0 = some true := by
  cases a0
  · kernel_rfl
  · kernel_rfl
theorem laws_FnExactOldSystem.holds (a0 : Bool) (w : World) : Calls Try.prog 3 #[.bool a0] w fun e w' => e = .returned (.bool true) ∧ Below w.heap.size w w' :=
  laws_FnExactOldSystem.calls 60 a0 true w (laws_FnExactOldSystem.pure a0)
end Go.Proofs.Ytcaidohboacokaa.Q
