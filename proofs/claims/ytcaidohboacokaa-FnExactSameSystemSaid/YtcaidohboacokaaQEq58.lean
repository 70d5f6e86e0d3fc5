-- WRITTEN BY A PROGRAM OF THIS SESSION (xprint.py, which runs the kit's printer with changes). Lean checks it.
import Derived.Test.YtcaidohboacokaaQ0
namespace Go.Proofs.Ytcaidohboacokaa.Q
open Go.RowKit Go.Proofs.YtcaidohboacokaaW.PrintWords Go.Proofs.YtcaidohboacokaaW.PrintLast Go.Proofs.YtcaidohboacokaaW.PrintMore
set_option linter.unusedVariables false
set_option linter.unusedSimpArgs false
theorem eqA58 (d : Nat) (w : World) (x0 y0 : Int) (x1 y1 : Int) :
    (Op.equalIn (d + 2) 58 (.agg #[.int .u8 x0, .int .i16 x1]) (.agg #[.int .u8 y0, .int .i16 y1])).run Try.prog w = .ok (x0 == y0 && (x1 == y1)) w := by
  refine eqA_of Try.underlying58 (by kernel_rfl) ?_
  refine eqf_cons (by rfl) (by go_simp; rfl) (by go_simp; rfl) (by go_simp) ?_
  exact eqf_last (by rfl) (by go_simp; rfl) (by go_simp; rfl) (by go_simp)
end Go.Proofs.Ytcaidohboacokaa.Q
