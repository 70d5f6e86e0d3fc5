-- WRITTEN BY A PROGRAM OF THIS SESSION (xprint.py, which runs the kit's printer with changes). Lean checks it.
import Derived.Test.YtnacfljfalkonaaQ0
import Derived.ChangeKeysEq
namespace Go.Proofs.Ytnacfljfalkonaa.Q
open Go.RowKit Go.Proofs.YtnacfljfalkonaaW.PrintWords Go.Proofs.YtnacfljfalkonaaW.PrintLast Go.Proofs.YtnacfljfalkonaaW.PrintMore
set_option linter.unusedVariables false
set_option linter.unusedSimpArgs false
theorem eqi_cons79 {P : Program} {d : Nat} {e : TypeId} {xs ys : Array Value} {i : Nat} {is : List Nat} {a b : Value} {r s : Bool} {w : World} (ha : (part e xs (i * 1)).run P w = .ok a w) (hb : (part e ys (i * 1)).run P w = .ok b w) (he : (Op.equalIn d e a b).run P w = .ok r w) (hr : (Op.eqItems d e 1 xs ys is).run P w = .ok s w) : (Op.eqItems d e 1 xs ys (i :: is)).run P w = .ok (r && s) w := by
  simp only [Op.eqItems, Sem.run_bind, ha, hb, he, Result.andThen_ok]
  cases r
  · simp
  · simpa using hr
theorem eqA79 (d : Nat) (w : World) (x0 y0 : Int) (x1 y1 : Int) :
    (Op.equalIn (d + 2) 79 (.agg #[.int .u8 x0, .int .u8 x1]) (.agg #[.int .u8 y0, .int .u8 y1])).run Try.prog w = .ok (x0 == y0 && (x1 == y1)) w := by
  obtain ⟨i, hi⟩ := Option.isSome_iff_exists.1 (show (Try.prog.info? 5).isSome = true by kernel_rfl)
  have hc : Try.prog.cellsOf 5 = 1 := by kernel_rfl
  have he := Try.underlying5
  rw [run_equalIn_array w (d + 1) _ _ Try.underlying79 hi, hc, show List.range 2 = [0, 1] from rfl, show (x0 == y0 && (x1 == y1)) = (x0 == y0 && (x1 == y1) && true) from (Bool.and_true _).symm]
  simp only [Bool.and_assoc]
  refine eqi_cons79 (by go_simp; rfl) (by go_simp; rfl) (by go_simp) ?_
  refine eqi_cons79 (by go_simp; rfl) (by go_simp; rfl) (by go_simp) ?_
  rfl
end Go.Proofs.Ytnacfljfalkonaa.Q
