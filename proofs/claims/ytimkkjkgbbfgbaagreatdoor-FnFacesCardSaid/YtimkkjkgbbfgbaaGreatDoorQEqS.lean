-- Joined by joinmods.py out of: QEq33 QEq25 QslicesEqualimplPair QhandSame2
import Derived.Test.YtimkkjkgbbfgbaaGreatDoorQ0
import Derived.ChangeKeysEq
import Derived.Test.YtimkkjkgbbfgbaaGreatDoorQLs
section
-- WRITTEN BY A PROGRAM OF THIS SESSION (xprint.py, which runs the kit's printer with changes). Lean checks it.
namespace Go.Proofs.YtimkkjkgbbfgbaaGreatDoor.Q
open Go.RowKit Go.Proofs.YtimkkjkgbbfgbaaGreatDoorW.PrintWords Go.Proofs.YtimkkjkgbbfgbaaGreatDoorW.PrintLast Go.Proofs.YtimkkjkgbbfgbaaGreatDoorW.PrintMore
set_option linter.unusedVariables false
set_option linter.unusedSimpArgs false
theorem eqA33 (d : Nat) (w : World) (x0 y0 : Int) (x1 y1 : Int) (x2 y2 : Int) :
    (Op.equalIn (d + 2) 33 (.agg #[.int .u8 x0, .int .u8 x1, .int .i8 x2]) (.agg #[.int .u8 y0, .int .u8 y1, .int .i8 y2])).run Tryz.prog w = .ok (x0 == y0 && (x1 == y1 && (x2 == y2))) w := by
  refine eqA_of Tryz.underlying33 (by kernel_rfl) ?_
  refine eqf_cons (by rfl) (by go_simp; rfl) (by go_simp; rfl) (by go_simp) ?_
  refine eqf_cons (by rfl) (by go_simp; rfl) (by go_simp; rfl) (by go_simp) ?_
  exact eqf_last (by rfl) (by go_simp; rfl) (by go_simp; rfl) (by go_simp)
end Go.Proofs.YtimkkjkgbbfgbaaGreatDoor.Q
end
section
-- WRITTEN BY A PROGRAM OF THIS SESSION (xprint.py, which runs the kit's printer with changes). Lean checks it.
namespace Go.Proofs.YtimkkjkgbbfgbaaGreatDoor.Q
open Go.RowKit Go.Proofs.YtimkkjkgbbfgbaaGreatDoorW.PrintWords Go.Proofs.YtimkkjkgbbfgbaaGreatDoorW.PrintLast Go.Proofs.YtimkkjkgbbfgbaaGreatDoorW.PrintMore
set_option linter.unusedVariables false
set_option linter.unusedSimpArgs false
theorem eqi_cons25 {P : Program} {d : Nat} {e : TypeId} {xs ys : Array Value} {i : Nat} {is : List Nat} {a b : Value} {r s : Bool} {w : World} (ha : (part e xs (i * 1)).run P w = .ok a w) (hb : (part e ys (i * 1)).run P w = .ok b w) (he : (Op.equalIn d e a b).run P w = .ok r w) (hr : (Op.eqItems d e 1 xs ys is).run P w = .ok s w) : (Op.eqItems d e 1 xs ys (i :: is)).run P w = .ok (r && s) w := by
  simp only [Op.eqItems, Sem.run_bind, ha, hb, he, Result.andThen_ok]
  cases r
  · simp
  · simpa using hr
theorem eqA25 (d : Nat) (w : World) (x0 y0 : Int) (x1 y1 : Int) (x2 y2 : Int) (x3 y3 : Int) (x4 y4 : Int) (x5 y5 : Int) (x6 y6 : Int) (x7 y7 : Int) (x8 y8 : Int) (x9 y9 : Int) (x10 y10 : Int) (x11 y11 : Int) (x12 y12 : Int) (x13 y13 : Int) (x14 y14 : Int) (x15 y15 : Int) (x16 y16 : Int) (x17 y17 : Int) (x18 y18 : Int) (x19 y19 : Int) (x20 y20 : Int) (x21 y21 : Int) (x22 y22 : Int) (x23 y23 : Int) (x24 y24 : Int) (x25 y25 : Int) :
    (Op.equalIn (d + 2) 25 (.agg #[.int .i8 x0, .int .i8 x1, .int .i8 x2, .int .i8 x3, .int .i8 x4, .int .i8 x5, .int .i8 x6, .int .i8 x7, .int .i8 x8, .int .i8 x9, .int .i8 x10, .int .i8 x11, .int .i8 x12, .int .i8 x13, .int .i8 x14, .int .i8 x15, .int .i8 x16, .int .i8 x17, .int .i8 x18, .int .i8 x19, .int .i8 x20, .int .i8 x21, .int .i8 x22, .int .i8 x23, .int .i8 x24, .int .i8 x25]) (.agg #[.int .i8 y0, .int .i8 y1, .int .i8 y2, .int .i8 y3, .int .i8 y4, .int .i8 y5, .int .i8 y6, .int .i8 y7, .int .i8 y8, .int .i8 y9, .int .i8 y10, .int .i8 y11, .int .i8 y12, .int .i8 y13, .int .i8 y14, .int .i8 y15, .int .i8 y16, .int .i8 y17, .int .i8 y18, .int .i8 y19, .int .i8 y20, .int .i8 y21, .int .i8 y22, .int .i8 y23, .int .i8 y24, .int .i8 y25])).run Tryz.prog w = .ok (x0 == y0 && (x1 == y1 && (x2 == y2 && (x3 == y3 && (x4 == y4 && (x5 == y5 && (x6 == y6 && (x7 == y7 && (x8 == y8 && (x9 == y9 && (x10 == y10 && (x11 == y11 && (x12 == y12 && (x13 == y13 && (x14 == y14 && (x15 == y15 && (x16 == y16 && (x17 == y17 && (x18 == y18 && (x19 == y19 && (x20 == y20 && (x21 == y21 && (x22 == y22 && (x23 == y23 && (x24 == y24 && (x25 == y25)))))))))))))))))))))))))) w := by
  obtain ⟨i, hi⟩ := Option.isSome_iff_exists.1 (show (Tryz.prog.info? 24).isSome = true by kernel_rfl)
  have hc : Tryz.prog.cellsOf 24 = 1 := by kernel_rfl
  have he := Tryz.underlying24
  rw [run_equalIn_array w (d + 1) _ _ Tryz.underlying25 hi, hc, show List.range 26 = [0, 1, 2, 3, 4, 5, 6, 7, 8, 9, 10, 11, 12, 13, 14, 15, 16, 17, 18, 19, 20, 21, 22, 23, 24, 25] from rfl, show (x0 == y0 && (x1 == y1 && (x2 == y2 && (x3 == y3 && (x4 == y4 && (x5 == y5 && (x6 == y6 && (x7 == y7 && (x8 == y8 && (x9 == y9 && (x10 == y10 && (x11 == y11 && (x12 == y12 && (x13 == y13 && (x14 == y14 && (x15 == y15 && (x16 == y16 && (x17 == y17 && (x18 == y18 && (x19 == y19 && (x20 == y20 && (x21 == y21 && (x22 == y22 && (x23 == y23 && (x24 == y24 && (x25 == y25)))))))))))))))))))))))))) = (x0 == y0 && (x1 == y1 && (x2 == y2 && (x3 == y3 && (x4 == y4 && (x5 == y5 && (x6 == y6 && (x7 == y7 && (x8 == y8 && (x9 == y9 && (x10 == y10 && (x11 == y11 && (x12 == y12 && (x13 == y13 && (x14 == y14 && (x15 == y15 && (x16 == y16 && (x17 == y17 && (x18 == y18 && (x19 == y19 && (x20 == y20 && (x21 == y21 && (x22 == y22 && (x23 == y23 && (x24 == y24 && (x25 == y25))))))))))))))))))))))))) && true) from (Bool.and_true _).symm]
  simp only [Bool.and_assoc]
  refine eqi_cons25 (by go_simp; rfl) (by go_simp; rfl) (by go_simp) ?_
  refine eqi_cons25 (by go_simp; rfl) (by go_simp; rfl) (by go_simp) ?_
  refine eqi_cons25 (by go_simp; rfl) (by go_simp; rfl) (by go_simp) ?_
  refine eqi_cons25 (by go_simp; rfl) (by go_simp; rfl) (by go_simp) ?_
  refine eqi_cons25 (by go_simp; rfl) (by go_simp; rfl) (by go_simp) ?_
  refine eqi_cons25 (by go_simp; rfl) (by go_simp; rfl) (by go_simp) ?_
  refine eqi_cons25 (by go_simp; rfl) (by go_simp; rfl) (by go_simp) ?_
  refine eqi_cons25 (by go_simp; rfl) (by go_simp; rfl) (by go_simp) ?_
  refine eqi_cons25 (by go_simp; rfl) (by go_simp; rfl) (by go_simp) ?_
  refine eqi_cons25 (by go_simp; rfl) (by go_simp; rfl) (by go_simp) ?_
  refine eqi_cons25 (by go_simp; rfl) (by go_simp; rfl) (by go_simp) ?_
  refine eqi_cons25 (by go_simp; rfl) (by go_simp; rfl) (by go_simp) ?_
  refine eqi_cons25 (by go_simp; rfl) (by go_simp; rfl) (by go_simp) ?_
  refine eqi_cons25 (by go_simp; rfl) (by go_simp; rfl) (by go_simp) ?_
  refine eqi_cons25 (by go_simp; rfl) (by go_simp; rfl) (by go_simp) ?_
  refine eqi_cons25 (by go_simp; rfl) (by go_simp; rfl) (by go_simp) ?_
  refine eqi_cons25 (by go_simp; rfl) (by go_simp; rfl) (by go_simp) ?_
  refine eqi_cons25 (by go_simp; rfl) (by go_simp; rfl) (by go_simp) ?_
  refine eqi_cons25 (by go_simp; rfl) (by go_simp; rfl) (by go_simp) ?_
  refine eqi_cons25 (by go_simp; rfl) (by go_simp; rfl) (by go_simp) ?_
  refine eqi_cons25 (by go_simp; rfl) (by go_simp; rfl) (by go_simp) ?_
  refine eqi_cons25 (by go_simp; rfl) (by go_simp; rfl) (by go_simp) ?_
  refine eqi_cons25 (by go_simp; rfl) (by go_simp; rfl) (by go_simp) ?_
  refine eqi_cons25 (by go_simp; rfl) (by go_simp; rfl) (by go_simp) ?_
  refine eqi_cons25 (by go_simp; rfl) (by go_simp; rfl) (by go_simp) ?_
  refine eqi_cons25 (by go_simp; rfl) (by go_simp; rfl) (by go_simp) ?_
  rfl
end Go.Proofs.YtimkkjkgbbfgbaaGreatDoor.Q
end
section
-- WRITTEN BY A PROGRAM OF THIS SESSION (xprint.py, which runs the kit's printer with changes). Lean checks it.
namespace Go.Proofs.YtimkkjkgbbfgbaaGreatDoor.Q
open Go.RowKit Go.Proofs.YtimkkjkgbbfgbaaGreatDoorW.PrintWords Go.Proofs.YtimkkjkgbbfgbaaGreatDoorW.PrintLast Go.Proofs.YtimkkjkgbbfgbaaGreatDoorW.PrintMore
set_option linter.unusedVariables false
set_option linter.unusedSimpArgs false
attribute [local go_sem] max2_int min2_int max_two min_two max_three min_three max_four min_four   -- for this text's walks alone
attribute [local go_sem high] eqA33
/-! ### slices_Equal_impl_Pair: function 53 -/
def slices_Equal_impl_Pair.l0 : Nat → List (S33) → List (S33) → Int → Int → Option (Bool)
  | 0, _, _, _, _ => none
  | k + 1, x0, x1, x12, x13 => if x13 < x12 then (if 0 ≤ x13 then (if x13 < (x0.length : Int) then (if x13 < (x1.length : Int) then (if (!(((rd_T33 x0 x13).f0) == ((rd_T33 x1 x13).f0)) || (!(((rd_T33 x0 x13).f1) == ((rd_T33 x1 x13).f1)) || (!(((rd_T33 x0 x13).f2) == ((rd_T33 x1 x13).f2))))) = true then (some false) else (slices_Equal_impl_Pair.l0 k x0 x1 x12 (wrap64 (x13 + 1)))) else (none)) else (none)) else (none)) else (some true)
def slices_Equal_impl_Pair.f (k : Nat) (l0 : List (S33)) (l1 : List (S33)) : Option (Bool) := if (l0.length : Int) = (l1.length : Int) then (slices_Equal_impl_Pair.l0 k l0 l1 (l0.length : Int) 0) else (some false)
theorem slices_Equal_impl_Pair.mono_l : ∀ k, (∀ y0 y1 y2 y3, LeO (slices_Equal_impl_Pair.l0 k y0 y1 y2 y3) (slices_Equal_impl_Pair.l0 (k + 1) y0 y1 y2 y3))
  | 0 => fun _ _ _ _ r h => by simp [slices_Equal_impl_Pair.l0] at h
  | k + 1 => by
    have ih0 := slices_Equal_impl_Pair.mono_l k
    · intro y0 y1 y2 y3
      unfold slices_Equal_impl_Pair.l0
      repeat' first
      | (with_reducible exact ih0 _ _ _ _)
      | (with_reducible exact LeO.refl _)
      | (with_reducible exact LeO.none _)
      | (with_reducible refine LeO.ite ?_ ?_)
      | (with_reducible refine LeO.bind ?_ (fun _ => ?_))
      | exact ih0 _ _ _ _
      | exact LeO.none _
      | refine LeO.ite ?_ ?_
      | refine LeO.bind ?_ (fun _ => ?_)
theorem slices_Equal_impl_Pair.mono : ∀ a0 a1 k, LeO (slices_Equal_impl_Pair.f k a0 a1) (slices_Equal_impl_Pair.f (k + 1) a0 a1) := by
  intro a0 a1 k
  have ih0 := slices_Equal_impl_Pair.mono_l k
  unfold slices_Equal_impl_Pair.f
  repeat' first
      | (with_reducible exact ih0 _ _ _ _)
      | (with_reducible exact LeO.refl _)
      | (with_reducible exact LeO.none _)
      | (with_reducible refine LeO.ite ?_ ?_)
      | (with_reducible refine LeO.bind ?_ (fun _ => ?_))
      | exact ih0 _ _ _ _
      | exact LeO.none _
      | refine LeO.ite ?_ ?_
      | refine LeO.bind ?_ (fun _ => ?_)
set_option maxHeartbeats 8000000 in
set_option maxRecDepth 100000 in
theorem slices_Equal_impl_Pair.calls (k : Nat) (A0 : Option Addr) (c0 : Nat) (l0 : List (S33)) (A1 : Option Addr) (c1 : Nat) (l1 : List (S33)) (r : Bool) (w : World) (hr0 : Kd.C k33 w A0 l0.length l0) (hc0 : l0.length ≤ c0) (hr1 : Kd.C k33 w A1 l1.length l1) (hc1 : l1.length ≤ c1) (h : slices_Equal_impl_Pair.f k l0 l1 = some r) :
    Calls Tryz.prog 53 #[.slice A0 l0.length c0, .slice A1 l1.length c1] w fun e w' => e = .returned (.bool r) ∧ Drawn0 w w' := by
  have hu33 := Tryz.underlying33
  have HR0 := Aside0.mk hr0
  have HC0 := Aside0.mk hc0
  clear hr0 hc0
  have HR1 := Aside0.mk hr1
  have HC1 := Aside0.mk hc1
  clear hr1 hc1
  have H : (if (l0.length : Int) = (l1.length : Int) then (slices_Equal_impl_Pair.l0 k l0 l1 (l0.length : Int) 0) else (some false)) = some r := h
  clear h
  by_cases c3 : (l0.length : Int) = (l1.length : Int)
  · rw [if_pos c3] at H
    have c3b0 : ((l0.length : Int) == (l1.length : Int)) = true := beq_iff_eq.mpr c3
    have c3b1 : ((l0.length : Int) != (l1.length : Int)) = false := bne_eq_false_iff_eq.mpr c3
    have c3b2 : (l0.length == l1.length) = true := by first | simpa using c3 | (simp at c3 ⊢; omega)
    clear c3
    have H' := Aside0.mk H
    clear H
    go_enter Tryz.func53, Tryz.ntmps53
    go_wp2
    repeat (go_quiet (fail); try go_wp2)
    go_loopg [13] k (fun kq v13 w' => ∃ (x13_1 : Int), v13 = .int .i64 x13_1 ∧ Aside0 (slices_Equal_impl_Pair.l0 kq l0 l1 (l0.length : Int) x13_1 = some r) ∧ Aside0 (kq ≤ k) ∧ Drawn0 w w')
    case atStart => exact ⟨(0), (by first | rfl | (simp; done) | (simp [*]; done)), H', ⟨Nat.le_refl _⟩, by repeat (first | exact Drawn0.refl _ | apply Drawn0.step)⟩
    case round =>
      clear H'
      try clear c1
      try clear p2
      try clear c3
      try clear c3b0
      try clear c3b1
      try clear c3b2
      obtain ⟨x13_1, rfl, HA, HK1, ⟨m1, rfl⟩⟩ := hrel
      cases gk with
      | zero => exact absurd HA.out (by simp [slices_Equal_impl_Pair.l0])
      | succ k1 =>
        have H := HA.out
        clear HA
        simp only [slices_Equal_impl_Pair.l0] at H
        by_cases c4 : x13_1 < (l0.length : Int)
        · rw [if_pos c4] at H
          have c4b0 : decide (x13_1 < (l0.length : Int)) = true := decide_eq_true c4
          clear c4
          by_cases c5 : 0 ≤ x13_1
          · rw [if_pos c5] at H
            have c5b0 : decide (0 ≤ x13_1) = true := decide_eq_true c5
            clear c5
            by_cases c6 : x13_1 < (l0.length : Int)
            · rw [if_pos c6] at H
              have c6b0 : decide (x13_1 < (l0.length : Int)) = true := decide_eq_true c6
              clear c6
              by_cases c7 : x13_1 < (l1.length : Int)
              · rw [if_pos c7] at H
                have c7b0 : decide (x13_1 < (l1.length : Int)) = true := decide_eq_true c7
                clear c7
                by_cases c8 : (!(((rd_T33 l0 x13_1).f0) == ((rd_T33 l1 x13_1).f0)) || (!(((rd_T33 l0 x13_1).f1) == ((rd_T33 l1 x13_1).f1)) || (!(((rd_T33 l0 x13_1).f2) == ((rd_T33 l1 x13_1).f2))))) = true
                · rw [if_pos c8] at H
                  have c8b0 : (!(((rd_T33 l0 x13_1).f0) == ((rd_T33 l1 x13_1).f0)) || (!(((rd_T33 l0 x13_1).f1) == ((rd_T33 l1 x13_1).f1)) || (!(((rd_T33 l0 x13_1).f2) == ((rd_T33 l1 x13_1).f2))))) = true := c8
                  clear c8
                  obtain rfl := Option.some.inj H
                  have p303 : 0 ≤ (x13_1 : Int) := of_decide_eq_true (by first | (with_reducible assumption) | assumption)
                  have q303 : x13_1 < (l0.length : Int) := of_decide_eq_true (by first | (with_reducible assumption) | assumption)
                  obtain ⟨ad303, e303, hx303_0, hx303_1, hx303_2⟩ := at_T33 HR0.out x13_1 p303 q303
                  cases e303
                  replace p303 := eq_true p303
                  replace q303 := eq_true q303
                  have p304 : 0 ≤ (x13_1 : Int) := of_decide_eq_true (by first | (with_reducible assumption) | assumption)
                  have q304 : x13_1 < (l1.length : Int) := of_decide_eq_true (by first | (with_reducible assumption) | assumption)
                  obtain ⟨ad304, e304, hx304_0, hx304_1, hx304_2⟩ := at_T33 HR1.out x13_1 p304 q304
                  cases e304
                  replace p304 := eq_true p304
                  replace q304 := eq_true q304
                  go_wp2
                  repeat (go_quiet (fail); try go_wp2)
                  go_ret
                  exact ⟨by first | rfl | (simp; done) | (simp [*]; done), by repeat (first | exact Drawn0.refl _ | apply Drawn0.step)⟩
                · rw [if_neg c8] at H
                  have c8b0 : (!(((rd_T33 l0 x13_1).f0) == ((rd_T33 l1 x13_1).f0)) || (!(((rd_T33 l0 x13_1).f1) == ((rd_T33 l1 x13_1).f1)) || (!(((rd_T33 l0 x13_1).f2) == ((rd_T33 l1 x13_1).f2))))) = false := by simpa using c8
                  clear c8
                  have H' := Aside0.mk H
                  clear H
                  have p303 : 0 ≤ (x13_1 : Int) := of_decide_eq_true (by first | (with_reducible assumption) | assumption)
                  have q303 : x13_1 < (l0.length : Int) := of_decide_eq_true (by first | (with_reducible assumption) | assumption)
                  obtain ⟨ad303, e303, hx303_0, hx303_1, hx303_2⟩ := at_T33 HR0.out x13_1 p303 q303
                  cases e303
                  replace p303 := eq_true p303
                  replace q303 := eq_true q303
                  have p304 : 0 ≤ (x13_1 : Int) := of_decide_eq_true (by first | (with_reducible assumption) | assumption)
                  have q304 : x13_1 < (l1.length : Int) := of_decide_eq_true (by first | (with_reducible assumption) | assumption)
                  obtain ⟨ad304, e304, hx304_0, hx304_1, hx304_2⟩ := at_T33 HR1.out x13_1 p304 q304
                  cases e304
                  replace p304 := eq_true p304
                  replace q304 := eq_true q304
                  go_wp2
                  repeat (go_quiet (fail); try go_wp2)
                  go_roundg k1
                  case measure => have := HK1.out; omega
                  case rel => exact ⟨(wrap64 (x13_1 + 1)), (by first | rfl | (simp; done) | (simp [*]; done)), H', ⟨by have := HK1.out; omega⟩, by repeat (first | exact Drawn0.refl _ | apply Drawn0.step)⟩
              · rw [if_neg c7] at H
                exact absurd H (by simp)
            · rw [if_neg c6] at H
              exact absurd H (by simp)
          · rw [if_neg c5] at H
            exact absurd H (by simp)
        · rw [if_neg c4] at H
          have c4b0 : decide (x13_1 < (l0.length : Int)) = false := decide_eq_false c4
          clear c4
          obtain rfl := Option.some.inj H
          go_wp2
          repeat (go_quiet (fail); try go_wp2)
          go_ret
          exact ⟨by first | rfl | (simp; done) | (simp [*]; done), by repeat (first | exact Drawn0.refl _ | apply Drawn0.step)⟩
  · rw [if_neg c3] at H
    have c3b0 : ((l0.length : Int) == (l1.length : Int)) = false := beq_eq_false_iff_ne.mpr c3
    have c3b1 : ((l0.length : Int) != (l1.length : Int)) = true := bne_iff_ne.mpr c3
    have c3b2 : (l0.length == l1.length) = false := by first | simpa using c3 | (simp at c3 ⊢; omega)
    obtain rfl := Option.some.inj H
    go_enter Tryz.func53, Tryz.ntmps53
    go_wp2
    repeat (go_quiet (fail); try go_wp2)
    go_ret
    exact ⟨by first | rfl | (simp; done) | (simp [*]; done), by repeat (first | exact Drawn0.refl _ | apply Drawn0.step)⟩

end Go.Proofs.YtimkkjkgbbfgbaaGreatDoor.Q
end
section
/- impl.SameFace, spec.SameFace, by hand. -/
namespace Go.Proofs.YtimkkjkgbbfgbaaGreatDoor.Q
open Go.RowKit Go.Proofs.YtimkkjkgbbfgbaaGreatDoorW.PrintWords Go.Proofs.YtimkkjkgbbfgbaaGreatDoorW.PrintLast Go.Proofs.YtimkkjkgbbfgbaaGreatDoorW.PrintMore
open Go.Proofs.YtimkkjkgbbfgbaaGreatDoor.Pure
set_option linter.unusedVariables false
set_option linter.unusedSimpArgs false
attribute [local go_sem high] eqA33

theorem list26 (xs : List Int) (hx : xs.length = 26) : ∃ x0  x1  x2  x3  x4  x5  x6  x7  x8  x9  x10  x11  x12  x13  x14  x15  x16  x17  x18  x19  x20  x21  x22  x23  x24  x25 : Int, xs = [x0, x1, x2, x3, x4, x5, x6, x7, x8, x9, x10, x11, x12, x13, x14, x15, x16, x17, x18, x19, x20, x21, x22, x23, x24, x25] :=
  match xs, hx with
  | [x0, x1, x2, x3, x4, x5, x6, x7, x8, x9, x10, x11, x12, x13, x14, x15, x16, x17, x18, x19, x20, x21, x22, x23, x24, x25], _ => ⟨x0, x1, x2, x3, x4, x5, x6, x7, x8, x9, x10, x11, x12, x13, x14, x15, x16, x17, x18, x19, x20, x21, x22, x23, x24, x25, rfl⟩
theorem eqAabs (d : Nat) (xs ys : List Int) (hx : xs.length = 26) (hy : ys.length = 26) (w : World) :
    (Op.equalIn (d + 2) 25 (.agg (arr8 xs)) (.agg (arr8 ys))).run Tryz.prog w = .ok (decide (xs = ys)) w := by
  obtain ⟨x0, x1, x2, x3, x4, x5, x6, x7, x8, x9, x10, x11, x12, x13, x14, x15, x16, x17, x18, x19, x20, x21, x22, x23, x24, x25, rfl⟩ := list26 xs hx
  obtain ⟨y0, y1, y2, y3, y4, y5, y6, y7, y8, y9, y10, y11, y12, y13, y14, y15, y16, y17, y18, y19, y20, y21, y22, y23, y24, y25, rfl⟩ := list26 ys hy
  rw [show arr8 [x0, x1, x2, x3, x4, x5, x6, x7, x8, x9, x10, x11, x12, x13, x14, x15, x16, x17, x18, x19, x20, x21, x22, x23, x24, x25] = #[Value.int .i8 x0, Value.int .i8 x1, Value.int .i8 x2, Value.int .i8 x3, Value.int .i8 x4, Value.int .i8 x5, Value.int .i8 x6, Value.int .i8 x7, Value.int .i8 x8, Value.int .i8 x9, Value.int .i8 x10, Value.int .i8 x11, Value.int .i8 x12, Value.int .i8 x13, Value.int .i8 x14, Value.int .i8 x15, Value.int .i8 x16, Value.int .i8 x17, Value.int .i8 x18, Value.int .i8 x19, Value.int .i8 x20, Value.int .i8 x21, Value.int .i8 x22, Value.int .i8 x23, Value.int .i8 x24, Value.int .i8 x25] from rfl, show arr8 [y0, y1, y2, y3, y4, y5, y6, y7, y8, y9, y10, y11, y12, y13, y14, y15, y16, y17, y18, y19, y20, y21, y22, y23, y24, y25] = #[Value.int .i8 y0, Value.int .i8 y1, Value.int .i8 y2, Value.int .i8 y3, Value.int .i8 y4, Value.int .i8 y5, Value.int .i8 y6, Value.int .i8 y7, Value.int .i8 y8, Value.int .i8 y9, Value.int .i8 y10, Value.int .i8 y11, Value.int .i8 y12, Value.int .i8 y13, Value.int .i8 y14, Value.int .i8 y15, Value.int .i8 y16, Value.int .i8 y17, Value.int .i8 y18, Value.int .i8 y19, Value.int .i8 y20, Value.int .i8 y21, Value.int .i8 y22, Value.int .i8 y23, Value.int .i8 y24, Value.int .i8 y25] from rfl, eqA25]
  congr 1
  rw [Bool.eq_iff_iff]
  simp

theorem guard23 (op : BinOp) (x y : Operand) (a b : Array Value) (w : World) : (eqGuard op 25 x y (.agg a) (.agg b)).run Tryz.prog w = .ok () w := by
  have h : Tryz.prog.eqGuardType Tryz.prog.depth 25 = false := by kernel_rfl
  cases op <;> simp [eqGuard, h, Sem.run_bind, Result.andThen]

theorem slices_Equal_impl_Pair.val (l m : List S33) (hl : l.length ≤ 1048576) (k : Nat) (hk : l.length < k) : slices_Equal_impl_Pair.f k l m = some (decide (l = m)) := by
  unfold slices_Equal_impl_Pair.f
  by_cases h : l.length = m.length
  · rw [if_pos (by omega)]
    have := scan_all (n := l.length) (l := fun k i => slices_Equal_impl_Pair.l0 k l m (l.length : Int) i) (p := fun i => decide (rd_T33 l (i : Nat) = rd_T33 m (i : Nat))) (b := true) (fun k i hi => ?_) (fun k => by simp [slices_Equal_impl_Pair.l0]) k hk
    · rw [all_eq_get l m h _ (fun i hi => by rw [rd46_get _ _ hi, rd46_get m i (by omega)]), Bool.and_true] at this
      exact this
    · simp only [slices_Equal_impl_Pair.l0]
      rw [if_pos (by omega), if_pos (by omega), if_pos (by omega), if_pos (by omega), wrap_succ hi (by omega)]
      generalize rd_T33 l (i : Nat) = a
      generalize rd_T33 m (i : Nat) = b
      obtain ⟨a0, a1, a2⟩ := a
      obtain ⟨b0, b1, b2⟩ := b
      by_cases h0 : a0 = b0 <;> by_cases h1 : a1 = b1 <;> by_cases h2 : a2 = b2 <;> simp [h0, h1, h2]
  · rw [if_neg (by omega), decide_eq_false (fun e => h (by rw [e]))]

def sameB (ws : List Int) (sp gp : Int) (l : List S33) (ws' : List Int) (sp' gp' : Int) (l' : List S33) : Bool := decide (ws = ws') && decide (sp = sp') && decide (gp = gp') && decide (l = l')

set_option maxHeartbeats 4000000 in
set_option maxRecDepth 100000 in
theorem implSameC (ws ws' : List Int) (hx : ws.length = 26) (hx' : ws'.length = 26) (sp gp sp' gp' : Int) (A B : Option Addr) (c d : Nat) (l l' : List S33) (w : World) (hr : Kd.C k33 w A l.length l) (hc : l.length ≤ c) (hr' : Kd.C k33 w B l'.length l') (hd : l'.length ≤ d) (hl : l.length ≤ 1048576) :
    Calls Tryz.prog 16 #[.agg (FV ws sp gp (.slice A l.length c)), .agg (FV ws' sp' gp' (.slice B l'.length d))] w fun e w' => e = .returned (.bool (sameB ws sp gp l ws' sp' gp' l')) ∧ Below w.heap.size w w' := by
  go_enter Tryz.func16, Tryz.ntmps16
  obtain ⟨N, hN⟩ : ∃ N : Nat, N = 26 := ⟨_, rfl⟩
  obtain ⟨T, hT⟩ : ∃ T : TypeId, T = 25 := ⟨_, rfl⟩
  have hz : ∀ w, (sizeOf T).run Tryz.prog w = .ok N w := fun w => by rw [hN, hT]; exact Tryz.sizeOf25 w
  have ha : ∀ w, (isAgg T).run Tryz.prog w = .ok true w := fun w => by rw [hT]; exact Tryz.isAgg25 w
  have e1 : ∀ x, Op.load 25 x = Op.load T x := fun x => by rw [hT]
  have e2 : ∀ o x y, Op.binOp o 25 x y 25 = Op.binOp o T x y T := fun o x y => by rw [hT]
  simp only [e1, e2]
  clear e1 e2
  have HN := Lib.hid hN
  have HX := Lib.hid hx
  have HX' := Lib.hid hx'
  have HR := Lib.hid hr
  have HR' := Lib.hid hr'
  have HC := Lib.hid hc
  have HD := Lib.hid hd
  have HL := Lib.hid hl
  have hq0 := Lib.hid (fun (d : Nat) (w : World) => (show (Op.equalIn (d + 2) T (.agg (arr8 ws)) (.agg (arr8 ws'))).run Tryz.prog w = .ok (decide (ws = ws')) w by rw [hT]; exact eqAabs d ws ws' hx hx' w))
  have hgd : ∀ (op : BinOp) (x y : Operand) (a b : Array Value) (w : World), (eqGuard op T x y (.agg a) (.agg b)).run Tryz.prog w = .ok () w := fun op x y a b w => by rw [hT]; exact guard23 op x y a b w
  clear hT hN hr hc hr' hd hl hx hx'
  have H2 := Lib.hid (two_blocks w (.cells (FV ws sp gp (.slice A l.length c)) 28) (.cells (FV ws' sp' gp' (.slice B l'.length d)) 28))
  have HB := Lib.hid (below_alloc (below_alloc (Below.refl _ w) (.cells (FV ws sp gp (.slice A l.length c)) 28)) (.cells (FV ws' sp' gp' (.slice B l'.length d)) 28))
  have hL0 := loadA H2.out.1 HX.out HN.out
  have hL1 := loadA H2.out.2 HX'.out HN.out
  have c26 := (blk_cell H2.out.1 26).trans (FV_26 ws HX.out _ _ _)
  have c27 := (blk_cell H2.out.1 27).trans (FV_27 ws HX.out _ _ _)
  have c28 := (blk_cell H2.out.1 28).trans (FV_28 ws HX.out _ _ _)
  have d26 := (blk_cell H2.out.2 26).trans (FV_26 ws' HX'.out _ _ _)
  have d27 := (blk_cell H2.out.2 27).trans (FV_27 ws' HX'.out _ _ _)
  have d28 := (blk_cell H2.out.2 28).trans (FV_28 ws' HX'.out _ _ _)
  by_cases h1 : ws = ws'
  · have hq : ∀ (d : Nat) (w : World), (Op.equalIn (d + 2) T (.agg (arr8 ws)) (.agg (arr8 ws'))).run Tryz.prog w = .ok true w := fun d w => (hq0.out d w).trans (by rw [decide_eq_true h1])
    have E1 := Lib.hid (decide_eq_true h1)
    clear h1
    by_cases h2 : sp = sp'
    · have t2 : (sp == sp') = true := by simpa using h2
      have E2 := Lib.hid (decide_eq_true h2)
      clear h2
      by_cases h3 : gp = gp'
      · have t3 : (gp == gp') = true := by simpa using h3
        have E3 := Lib.hid (decide_eq_true h3)
        clear h3
        obtain ⟨b, hb0⟩ : ∃ b, b = decide (l = l') := ⟨_, rfl⟩
        have HE := Lib.hid hb0
        clear hb0
        go_wp2_with (first
          | (go_at_call 53
             with_reducible refine (slices_Equal_impl_Pair.calls (l.length + 1) A c l B d l' b _ (Kd.C_below HR.out HB.out) HC.out (Kd.C_below HR'.out HB.out) HD.out (by rw [HE.out]; exact slices_Equal_impl_Pair.val l l' HL.out _ (by omega))).mono ?_
             rintro e w7 ⟨rfl, ⟨nd, rfl⟩⟩))
        go_ret
        exact ⟨by unfold sameB; rw [E1.out, E2.out, E3.out, ← HE.out]; rfl, pw_below_drewN HB.out _⟩
      · have t3 : (gp == gp') = false := by simpa using h3
        have E3 := Lib.hid (decide_eq_false h3)
        clear h3
        go_wp2
        go_ret
        exact ⟨by unfold sameB; rw [E1.out, E2.out, E3.out]; rfl, HB.out⟩
    · have t2 : (sp == sp') = false := by simpa using h2
      have E2 := Lib.hid (decide_eq_false h2)
      clear h2
      go_wp2
      go_ret
      exact ⟨by unfold sameB; rw [E1.out, E2.out]; rfl, HB.out⟩
  · have hq : ∀ (d : Nat) (w : World), (Op.equalIn (d + 2) T (.agg (arr8 ws)) (.agg (arr8 ws'))).run Tryz.prog w = .ok false w := fun d w => (hq0.out d w).trans (by rw [decide_eq_false h1])
    have E1 := Lib.hid (decide_eq_false h1)
    clear h1
    go_wp2
    go_ret
    exact ⟨by unfold sameB; rw [E1.out]; rfl, HB.out⟩

set_option maxHeartbeats 4000000 in
set_option maxRecDepth 100000 in
theorem specSameC (ws ws' : List Int) (hx : ws.length = 26) (hx' : ws'.length = 26) (sp gp sp' gp' : Int) (A B : Option Addr) (c d : Nat) (l l' : List S33) (w : World) (hr : Kd.C k33 w A l.length l) (hc : l.length ≤ c) (hr' : Kd.C k33 w B l'.length l') (hd : l'.length ≤ d) (hl : l.length ≤ 1048576) :
    Calls Tryz.prog 15 #[.agg (FV ws sp gp (.slice A l.length c)), .agg (FV ws' sp' gp' (.slice B l'.length d))] w fun e w' => e = .returned (.bool (sameB ws sp gp l ws' sp' gp' l')) ∧ Below w.heap.size w w' := by
  go_enter Tryz.func15, Tryz.ntmps15
  obtain ⟨N, hN⟩ : ∃ N : Nat, N = 26 := ⟨_, rfl⟩
  obtain ⟨T, hT⟩ : ∃ T : TypeId, T = 25 := ⟨_, rfl⟩
  have hz : ∀ w, (sizeOf T).run Tryz.prog w = .ok N w := fun w => by rw [hN, hT]; exact Tryz.sizeOf25 w
  have ha : ∀ w, (isAgg T).run Tryz.prog w = .ok true w := fun w => by rw [hT]; exact Tryz.isAgg25 w
  have e1 : ∀ x, Op.load 25 x = Op.load T x := fun x => by rw [hT]
  have e2 : ∀ o x y, Op.binOp o 25 x y 25 = Op.binOp o T x y T := fun o x y => by rw [hT]
  simp only [e1, e2]
  clear e1 e2
  have HN := Lib.hid hN
  have HX := Lib.hid hx
  have HX' := Lib.hid hx'
  have HR := Lib.hid hr
  have HR' := Lib.hid hr'
  have HC := Lib.hid hc
  have HD := Lib.hid hd
  have HL := Lib.hid hl
  have hq0 := Lib.hid (fun (d : Nat) (w : World) => (show (Op.equalIn (d + 2) T (.agg (arr8 ws)) (.agg (arr8 ws'))).run Tryz.prog w = .ok (decide (ws = ws')) w by rw [hT]; exact eqAabs d ws ws' hx hx' w))
  have hgd : ∀ (op : BinOp) (x y : Operand) (a b : Array Value) (w : World), (eqGuard op T x y (.agg a) (.agg b)).run Tryz.prog w = .ok () w := fun op x y a b w => by rw [hT]; exact guard23 op x y a b w
  clear hT hN hr hc hr' hd hl hx hx'
  have H2 := Lib.hid (two_blocks w (.cells (FV ws sp gp (.slice A l.length c)) 28) (.cells (FV ws' sp' gp' (.slice B l'.length d)) 28))
  have HB := Lib.hid (below_alloc (below_alloc (Below.refl _ w) (.cells (FV ws sp gp (.slice A l.length c)) 28)) (.cells (FV ws' sp' gp' (.slice B l'.length d)) 28))
  have hL0 := loadA H2.out.1 HX.out HN.out
  have hL1 := loadA H2.out.2 HX'.out HN.out
  have c26 := (blk_cell H2.out.1 26).trans (FV_26 ws HX.out _ _ _)
  have c27 := (blk_cell H2.out.1 27).trans (FV_27 ws HX.out _ _ _)
  have c28 := (blk_cell H2.out.1 28).trans (FV_28 ws HX.out _ _ _)
  have d26 := (blk_cell H2.out.2 26).trans (FV_26 ws' HX'.out _ _ _)
  have d27 := (blk_cell H2.out.2 27).trans (FV_27 ws' HX'.out _ _ _)
  have d28 := (blk_cell H2.out.2 28).trans (FV_28 ws' HX'.out _ _ _)
  by_cases h1 : ws = ws'
  · have hq : ∀ (d : Nat) (w : World), (Op.equalIn (d + 2) T (.agg (arr8 ws)) (.agg (arr8 ws'))).run Tryz.prog w = .ok true w := fun d w => (hq0.out d w).trans (by rw [decide_eq_true h1])
    have E1 := Lib.hid (decide_eq_true h1)
    clear h1
    by_cases h2 : sp = sp'
    · have t2 : (sp != sp') = false := by simpa using h2
      have E2 := Lib.hid (decide_eq_true h2)
      clear h2
      by_cases h3 : gp = gp'
      · have t3 : (gp != gp') = false := by simpa using h3
        have E3 := Lib.hid (decide_eq_true h3)
        clear h3
        by_cases h4 : l.length = l'.length
        · have t4 : ((l.length : Int) != (l'.length : Int)) = false := bne_eq_false_iff_eq.2 (by omega)
          have E4 := Lib.hid h4
          clear h4
          go_wp2
          go_loopw [5] (fun i wr => ∃ k : Nat, k ≤ l.length ∧ i = .int .i64 k ∧ RowKit.Hid (wr.heap[w.heap.size]? = some (.cells (FV ws sp gp (.slice A l.length c)) 28) ∧ wr.heap[w.heap.size + 1]? = some (.cells (FV ws' sp' gp' (.slice B l'.length d)) 28)) ∧ RowKit.Hid (Below w.heap.size w wr) ∧ RowKit.Hid (∀ j, j < k → rd_T33 l (j : Nat) = rd_T33 l' (j : Nat))) (fun i _ => l.length - (intOf i).toNat)
          case atStart => exact ⟨0, Nat.zero_le _, rfl, H2, HB, Lib.hid fun j hj => absurd hj (Nat.not_lt_zero _)⟩
          case round =>
            clear c26 c27 c28 d26 d27 d28 hL0 hL1
            obtain ⟨k, hk, rfl, K, KB, KE⟩ := hrel
            have c28 := (blk_cell K.out.1 28).trans (FV_28 ws HX.out _ _ _)
            have d28 := (blk_cell K.out.2 28).trans (FV_28 ws' HX'.out _ _ _)
            by_cases hlt : k < l.length
            · have hlt2 : (k : Int) < (l.length : Int) := by omega
              have hlt3 : (k : Int) < (l'.length : Int) := by have := E4.out; omega
              have hbl : (l.length : Int) ≤ 1048576 := by have := HL.out; omega
              obtain ⟨ad0, rfl, hx0, hx1, hx2⟩ := at_T33 (Kd.C_below HR.out KB.out) (k : Int) (by omega) (by omega)
              obtain ⟨ad1, rfl, hy0, hy1, hy2⟩ := at_T33 (Kd.C_below HR'.out KB.out) (k : Int) (by omega) (by omega)
              simp only [Int.toNat_natCast] at hx0 hx1 hx2 hy0 hy1 hy2
              by_cases e : rd_T33 l (k : Nat) = rd_T33 l' (k : Nat)
              · have E := Lib.hid e
                have ht : ((rd_T33 l (k : Nat)).f0 == (rd_T33 l' (k : Nat)).f0 && ((rd_T33 l (k : Nat)).f1 == (rd_T33 l' (k : Nat)).f1 && (rd_T33 l (k : Nat)).f2 == (rd_T33 l' (k : Nat)).f2)) = true := by rw [e]; simp
                clear e
                go_wp2
                go_region
                all_goals
                  go_wp2
                  go_roundw
                  case measure => simp only [intOf]; omega
                  case rel => exact ⟨k + 1, by omega, by go_num, Lib.hid ⟨K.out.1, K.out.2⟩, Lib.hid (by first | exact KB.out | exact below_drew1 KB.out | exact pw_below_drewN KB.out _), Lib.hid fun j hj => (by
                    by_cases h : j < k
                    · exact KE.out j h
                    · obtain rfl : j = k := by omega
                      exact E.out)⟩
              · have E := Lib.hid e
                have ht : ((rd_T33 l (k : Nat)).f0 == (rd_T33 l' (k : Nat)).f0 && ((rd_T33 l (k : Nat)).f1 == (rd_T33 l' (k : Nat)).f1 && (rd_T33 l (k : Nat)).f2 == (rd_T33 l' (k : Nat)).f2)) = false := by
                  rw [Bool.eq_false_iff]
                  intro h
                  simp only [Bool.and_eq_true, beq_iff_eq] at h
                  apply e
                  revert h
                  generalize rd_T33 l (k : Nat) = p
                  generalize rd_T33 l' (k : Nat) = q
                  intro h
                  cases p
                  cases q
                  obtain ⟨rfl, rfl, rfl⟩ := h
                  rfl
                clear e
                go_wp2
                go_region
                all_goals
                  go_wp2
                  go_ret
                  exact ⟨by unfold sameB; rw [decide_eq_false (fun h : l = l' => E.out (by rw [h]))]; simp, by first | exact KB.out | exact below_drew1 KB.out | exact pw_below_drewN KB.out _⟩
            · have hlt2 : ¬ (k : Int) < (l.length : Int) := by omega
              have E := Lib.hid (show k = l.length by omega)
              clear hk hlt
              go_wp2
              go_ret
              have heq : l = l' := by
                refine List.ext_getElem E4.out fun j h1 h2 => ?_
                have := KE.out j (by rw [E.out]; exact h1)
                rw [rd46_get _ _ h1, rd46_get _ _ h2] at this
                exact this
              exact ⟨by unfold sameB; rw [E1.out, E2.out, E3.out, decide_eq_true heq]; rfl, KB.out⟩
        · have t4 : ((l.length : Int) != (l'.length : Int)) = true := bne_iff_ne.2 (by omega)
          have E4 := Lib.hid (decide_eq_false (fun e : l = l' => h4 (by rw [e])))
          clear h4
          go_wp2
          go_ret
          exact ⟨by unfold sameB; rw [E1.out, E2.out, E3.out, E4.out]; rfl, HB.out⟩
      · have t3 : (gp != gp') = true := by simpa using h3
        have E3 := Lib.hid (decide_eq_false h3)
        clear h3
        go_wp2
        go_ret
        exact ⟨by unfold sameB; rw [E1.out, E2.out, E3.out]; rfl, HB.out⟩
    · have t2 : (sp != sp') = true := by simpa using h2
      have E2 := Lib.hid (decide_eq_false h2)
      clear h2
      go_wp2
      go_ret
      exact ⟨by unfold sameB; rw [E1.out, E2.out]; rfl, HB.out⟩
  · have hq : ∀ (d : Nat) (w : World), (Op.equalIn (d + 2) T (.agg (arr8 ws)) (.agg (arr8 ws'))).run Tryz.prog w = .ok false w := fun d w => (hq0.out d w).trans (by rw [decide_eq_false h1])
    have E1 := Lib.hid (decide_eq_false h1)
    clear h1
    go_wp2
    go_ret
    exact ⟨by unfold sameB; rw [E1.out]; rfl, HB.out⟩
end Go.Proofs.YtimkkjkgbbfgbaaGreatDoor.Q
end
