-- WRITTEN BY A PROGRAM OF THIS SESSION (xprint.py, which runs the kit's printer with changes). Lean checks it.
import Derived.Test.YtjaamcedgdhilaaQ0
import Derived.ChangeKeysEq
namespace Go.Proofs.Ytjaamcedgdhilaa.Q
open Go.RowKit Go.Proofs.YtjaamcedgdhilaaW.PrintWords Go.Proofs.YtjaamcedgdhilaaW.PrintLast Go.Proofs.YtjaamcedgdhilaaW.PrintMore
set_option linter.unusedVariables false
set_option linter.unusedSimpArgs false
theorem eqi_cons23 {P : Program} {d : Nat} {e : TypeId} {xs ys : Array Value} {i : Nat} {is : List Nat} {a b : Value} {r s : Bool} {w : World} (ha : (part e xs (i * 1)).run P w = .ok a w) (hb : (part e ys (i * 1)).run P w = .ok b w) (he : (Op.equalIn d e a b).run P w = .ok r w) (hr : (Op.eqItems d e 1 xs ys is).run P w = .ok s w) : (Op.eqItems d e 1 xs ys (i :: is)).run P w = .ok (r && s) w := by
  simp only [Op.eqItems, Sem.run_bind, ha, hb, he, Result.andThen_ok]
  cases r
  · simp
  · simpa using hr
theorem eqA23 (d : Nat) (w : World) (x0 y0 : Int) (x1 y1 : Int) (x2 y2 : Int) (x3 y3 : Int) (x4 y4 : Int) (x5 y5 : Int) (x6 y6 : Int) (x7 y7 : Int) (x8 y8 : Int) (x9 y9 : Int) (x10 y10 : Int) (x11 y11 : Int) (x12 y12 : Int) (x13 y13 : Int) (x14 y14 : Int) (x15 y15 : Int) (x16 y16 : Int) (x17 y17 : Int) (x18 y18 : Int) (x19 y19 : Int) (x20 y20 : Int) (x21 y21 : Int) (x22 y22 : Int) (x23 y23 : Int) (x24 y24 : Int) (x25 y25 : Int) :
    (Op.equalIn (d + 2) 23 (.agg #[.int .i8 x0, .int .i8 x1, .int .i8 x2, .int .i8 x3, .int .i8 x4, .int .i8 x5, .int .i8 x6, .int .i8 x7, .int .i8 x8, .int .i8 x9, .int .i8 x10, .int .i8 x11, .int .i8 x12, .int .i8 x13, .int .i8 x14, .int .i8 x15, .int .i8 x16, .int .i8 x17, .int .i8 x18, .int .i8 x19, .int .i8 x20, .int .i8 x21, .int .i8 x22, .int .i8 x23, .int .i8 x24, .int .i8 x25]) (.agg #[.int .i8 y0, .int .i8 y1, .int .i8 y2, .int .i8 y3, .int .i8 y4, .int .i8 y5, .int .i8 y6, .int .i8 y7, .int .i8 y8, .int .i8 y9, .int .i8 y10, .int .i8 y11, .int .i8 y12, .int .i8 y13, .int .i8 y14, .int .i8 y15, .int .i8 y16, .int .i8 y17, .int .i8 y18, .int .i8 y19, .int .i8 y20, .int .i8 y21, .int .i8 y22, .int .i8 y23, .int .i8 y24, .int .i8 y25])).run Try.prog w = .ok (x0 == y0 && (x1 == y1 && (x2 == y2 && (x3 == y3 && (x4 == y4 && (x5 == y5 && (x6 == y6 && (x7 == y7 && (x8 == y8 && (x9 == y9 && (x10 == y10 && (x11 == y11 && (x12 == y12 && (x13 == y13 && (x14 == y14 && (x15 == y15 && (x16 == y16 && (x17 == y17 && (x18 == y18 && (x19 == y19 && (x20 == y20 && (x21 == y21 && (x22 == y22 && (x23 == y23 && (x24 == y24 && (x25 == y25)))))))))))))))))))))))))) w := by
  obtain ⟨i, hi⟩ := Option.isSome_iff_exists.1 (show (Try.prog.info? 22).isSome = true by kernel_rfl)
  have hc : Try.prog.cellsOf 22 = 1 := by kernel_rfl
  have he := Try.underlying22
  rw [run_equalIn_array w (d + 1) _ _ Try.underlying23 hi, hc, show List.range 26 = [0, 1, 2, 3, 4, 5, 6, 7, 8, 9, 10, 11, 12, 13, 14, 15, 16, 17, 18, 19, 20, 21, 22, 23, 24, 25] from rfl, show (x0 == y0 && (x1 == y1 && (x2 == y2 && (x3 == y3 && (x4 == y4 && (x5 == y5 && (x6 == y6 && (x7 == y7 && (x8 == y8 && (x9 == y9 && (x10 == y10 && (x11 == y11 && (x12 == y12 && (x13 == y13 && (x14 == y14 && (x15 == y15 && (x16 == y16 && (x17 == y17 && (x18 == y18 && (x19 == y19 && (x20 == y20 && (x21 == y21 && (x22 == y22 && (x23 == y23 && (x24 == y24 && (x25 == y25)))))))))))))))))))))))))) = (x0 == y0 && (x1 == y1 && (x2 == y2 && (x3 == y3 && (x4 == y4 && (x5 == y5 && (x6 == y6 && (x7 == y7 && (x8 == y8 && (x9 == y9 && (x10 == y10 && (x11 == y11 && (x12 == y12 && (x13 == y13 && (x14 == y14 && (x15 == y15 && (x16 == y16 && (x17 == y17 && (x18 == y18 && (x19 == y19 && (x20 == y20 && (x21 == y21 && (x22 == y22 && (x23 == y23 && (x24 == y24 && (x25 == y25))))))))))))))))))))))))) && true) from (Bool.and_true _).symm]
  simp only [Bool.and_assoc]
  refine eqi_cons23 (by go_simp; rfl) (by go_simp; rfl) (by go_simp) ?_
  refine eqi_cons23 (by go_simp; rfl) (by go_simp; rfl) (by go_simp) ?_
  refine eqi_cons23 (by go_simp; rfl) (by go_simp; rfl) (by go_simp) ?_
  refine eqi_cons23 (by go_simp; rfl) (by go_simp; rfl) (by go_simp) ?_
  refine eqi_cons23 (by go_simp; rfl) (by go_simp; rfl) (by go_simp) ?_
  refine eqi_cons23 (by go_simp; rfl) (by go_simp; rfl) (by go_simp) ?_
  refine eqi_cons23 (by go_simp; rfl) (by go_simp; rfl) (by go_simp) ?_
  refine eqi_cons23 (by go_simp; rfl) (by go_simp; rfl) (by go_simp) ?_
  refine eqi_cons23 (by go_simp; rfl) (by go_simp; rfl) (by go_simp) ?_
  refine eqi_cons23 (by go_simp; rfl) (by go_simp; rfl) (by go_simp) ?_
  refine eqi_cons23 (by go_simp; rfl) (by go_simp; rfl) (by go_simp) ?_
  refine eqi_cons23 (by go_simp; rfl) (by go_simp; rfl) (by go_simp) ?_
  refine eqi_cons23 (by go_simp; rfl) (by go_simp; rfl) (by go_simp) ?_
  refine eqi_cons23 (by go_simp; rfl) (by go_simp; rfl) (by go_simp) ?_
  refine eqi_cons23 (by go_simp; rfl) (by go_simp; rfl) (by go_simp) ?_
  refine eqi_cons23 (by go_simp; rfl) (by go_simp; rfl) (by go_simp) ?_
  refine eqi_cons23 (by go_simp; rfl) (by go_simp; rfl) (by go_simp) ?_
  refine eqi_cons23 (by go_simp; rfl) (by go_simp; rfl) (by go_simp) ?_
  refine eqi_cons23 (by go_simp; rfl) (by go_simp; rfl) (by go_simp) ?_
  refine eqi_cons23 (by go_simp; rfl) (by go_simp; rfl) (by go_simp) ?_
  refine eqi_cons23 (by go_simp; rfl) (by go_simp; rfl) (by go_simp) ?_
  refine eqi_cons23 (by go_simp; rfl) (by go_simp; rfl) (by go_simp) ?_
  refine eqi_cons23 (by go_simp; rfl) (by go_simp; rfl) (by go_simp) ?_
  refine eqi_cons23 (by go_simp; rfl) (by go_simp; rfl) (by go_simp) ?_
  refine eqi_cons23 (by go_simp; rfl) (by go_simp; rfl) (by go_simp) ?_
  refine eqi_cons23 (by go_simp; rfl) (by go_simp; rfl) (by go_simp) ?_
  rfl
end Go.Proofs.Ytjaamcedgdhilaa.Q
