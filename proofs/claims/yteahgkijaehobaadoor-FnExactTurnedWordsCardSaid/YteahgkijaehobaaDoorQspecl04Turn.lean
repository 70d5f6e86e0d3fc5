-- WRITTEN BY A PROGRAM OF THIS SESSION (xprint.py, which runs the kit's printer with changes). Lean checks it.
import Derived.Test.YteahgkijaehobaaDoorQ0
namespace Go.Proofs.YteahgkijaehobaaDoor.Q
open Go.RowKit Go.Proofs.YteahgkijaehobaaDoorW.PrintWords Go.Proofs.YteahgkijaehobaaDoorW.PrintLast Go.Proofs.YteahgkijaehobaaDoorW.PrintMore
set_option linter.unusedVariables false
set_option linter.unusedSimpArgs false
attribute [local go_sem] max2_int min2_int max_two min_two max_three min_three max_four min_four   -- for this text's walks alone
/-! ### spec_l04Turn: function 92 -/
def spec_l04Turn.j0 : Nat → Int → Int → Bool → Option (Int)
  | 0, _, _, _ => none
  | k + 1, x0, x3, x4 => if x4 = true then (some x0) else (if x3 = 77 then (some 87) else (if x3 = 87 then (some 77) else (some 0)))
def spec_l04Turn.f (k : Nat) (a0 : Int) : Option (Int) := if a0 = 72 then (spec_l04Turn.j0 k a0 a0 (a0 == 72)) else (if a0 = 73 then (spec_l04Turn.j0 k a0 a0 (a0 == 73)) else (if a0 = 78 then (spec_l04Turn.j0 k a0 a0 (a0 == 78)) else (if a0 = 79 then (spec_l04Turn.j0 k a0 a0 (a0 == 79)) else (if a0 = 83 then (spec_l04Turn.j0 k a0 a0 (a0 == 83)) else (if a0 = 88 then (spec_l04Turn.j0 k a0 a0 (a0 == 88)) else (if a0 = 90 then (spec_l04Turn.j0 k a0 a0 (a0 == 90)) else (spec_l04Turn.j0 k a0 a0 (a0 == 32))))))))
theorem spec_l04Turn.mono_l : ∀ k, (∀ y0 y1 y2, LeO (spec_l04Turn.j0 k y0 y1 y2) (spec_l04Turn.j0 (k + 1) y0 y1 y2))
  | 0 => fun _ _ _ r h => by simp [spec_l04Turn.j0] at h
  | k + 1 => by
    have ih0 := spec_l04Turn.mono_l k
    · intro y0 y1 y2
      unfold spec_l04Turn.j0
      repeat' first
      | (with_reducible exact ih0 _ _ _)
      | (with_reducible exact LeO.refl _)
      | (with_reducible exact LeO.none _)
      | (with_reducible refine LeO.ite ?_ ?_)
      | (with_reducible refine LeO.bind ?_ (fun _ => ?_))
      | exact ih0 _ _ _
      | exact LeO.none _
      | refine LeO.ite ?_ ?_
      | refine LeO.bind ?_ (fun _ => ?_)
theorem spec_l04Turn.mono : ∀ a0 k, LeO (spec_l04Turn.f k a0) (spec_l04Turn.f (k + 1) a0) := by
  intro a0 k
  have ih0 := spec_l04Turn.mono_l k
  unfold spec_l04Turn.f
  repeat' first
      | (with_reducible exact ih0 _ _ _)
      | (with_reducible exact LeO.refl _)
      | (with_reducible exact LeO.none _)
      | (with_reducible refine LeO.ite ?_ ?_)
      | (with_reducible refine LeO.bind ?_ (fun _ => ?_))
      | exact ih0 _ _ _
      | exact LeO.none _
      | refine LeO.ite ?_ ?_
      | refine LeO.bind ?_ (fun _ => ?_)
set_option maxHeartbeats 8000000 in
set_option maxRecDepth 100000 in
theorem spec_l04Turn.calls (k : Nat) (a0 : Int) (r : Int) (w : World) (h : spec_l04Turn.f k a0 = some r) :
    Calls Tryd.prog 92 #[.int .u8 a0] w fun e w' => e = .returned (.int .u8 r) ∧ Drawn0 w w' := by
  have H : (if a0 = 72 then (spec_l04Turn.j0 k a0 a0 (a0 == 72)) else (if a0 = 73 then (spec_l04Turn.j0 k a0 a0 (a0 == 73)) else (if a0 = 78 then (spec_l04Turn.j0 k a0 a0 (a0 == 78)) else (if a0 = 79 then (spec_l04Turn.j0 k a0 a0 (a0 == 79)) else (if a0 = 83 then (spec_l04Turn.j0 k a0 a0 (a0 == 83)) else (if a0 = 88 then (spec_l04Turn.j0 k a0 a0 (a0 == 88)) else (if a0 = 90 then (spec_l04Turn.j0 k a0 a0 (a0 == 90)) else (spec_l04Turn.j0 k a0 a0 (a0 == 32))))))))) = some r := h
  clear h
  have HC2 := Aside0.mk H
  clear H
  go_enter Tryd.func92, Tryd.ntmps92
  go_upto_if 4 with (fail)
  go_cut [4] (fun v4 wc => ∃ (kq : Nat) (x4_1 : Bool), v4 = .bool x4_1 ∧ Aside0 (spec_l04Turn.j0 kq a0 a0 x4_1 = some r) ∧ Aside0 (kq ≤ k) ∧ Drawn0 w wc)
  case first =>
    have H := HC2.out
    clear HC2
    by_cases c3 : a0 = 72
    · rw [if_pos c3] at H
      have c3b0 : (a0 == 72) = true := beq_iff_eq.mpr c3
      have c3b1 : (a0 != 72) = false := bne_eq_false_iff_eq.mpr c3
      clear c3
      (first | rw [c3b0] | (simp only [i64_w, i32_w]; rw [c3b0]) | skip)
      have H' := Aside0.mk H
      clear H
      go_wp2
      go_meet
      case rel => exact ⟨_, ((a0 == 72)), (by first | rfl | (simp; done) | (simp [*]; done)), H', ⟨by first | omega | exact Nat.le_refl _⟩, by repeat (first | exact Drawn0.refl _ | apply Drawn0.step)⟩
    · rw [if_neg c3] at H
      have c3b0 : (a0 == 72) = false := beq_eq_false_iff_ne.mpr c3
      have c3b1 : (a0 != 72) = true := bne_iff_ne.mpr c3
      (first | rw [c3b0] | (simp only [i64_w, i32_w]; rw [c3b0]) | skip)
      by_cases c4 : a0 = 73
      · rw [if_pos c4] at H
        have c4b0 : (a0 == 73) = true := beq_iff_eq.mpr c4
        have c4b1 : (a0 != 73) = false := bne_eq_false_iff_eq.mpr c4
        clear c4
        have H' := Aside0.mk H
        clear H
        go_wp2
        go_meet
        case rel => exact ⟨_, ((a0 == 73)), (by first | rfl | (simp; done) | (simp [*]; done)), H', ⟨by first | omega | exact Nat.le_refl _⟩, by repeat (first | exact Drawn0.refl _ | apply Drawn0.step)⟩
      · rw [if_neg c4] at H
        have c4b0 : (a0 == 73) = false := beq_eq_false_iff_ne.mpr c4
        have c4b1 : (a0 != 73) = true := bne_iff_ne.mpr c4
        by_cases c5 : a0 = 78
        · rw [if_pos c5] at H
          have c5b0 : (a0 == 78) = true := beq_iff_eq.mpr c5
          have c5b1 : (a0 != 78) = false := bne_eq_false_iff_eq.mpr c5
          clear c5
          have H' := Aside0.mk H
          clear H
          go_wp2
          go_meet
          case rel => exact ⟨_, ((a0 == 78)), (by first | rfl | (simp; done) | (simp [*]; done)), H', ⟨by first | omega | exact Nat.le_refl _⟩, by repeat (first | exact Drawn0.refl _ | apply Drawn0.step)⟩
        · rw [if_neg c5] at H
          have c5b0 : (a0 == 78) = false := beq_eq_false_iff_ne.mpr c5
          have c5b1 : (a0 != 78) = true := bne_iff_ne.mpr c5
          by_cases c6 : a0 = 79
          · rw [if_pos c6] at H
            have c6b0 : (a0 == 79) = true := beq_iff_eq.mpr c6
            have c6b1 : (a0 != 79) = false := bne_eq_false_iff_eq.mpr c6
            clear c6
            have H' := Aside0.mk H
            clear H
            go_wp2
            go_meet
            case rel => exact ⟨_, ((a0 == 79)), (by first | rfl | (simp; done) | (simp [*]; done)), H', ⟨by first | omega | exact Nat.le_refl _⟩, by repeat (first | exact Drawn0.refl _ | apply Drawn0.step)⟩
          · rw [if_neg c6] at H
            have c6b0 : (a0 == 79) = false := beq_eq_false_iff_ne.mpr c6
            have c6b1 : (a0 != 79) = true := bne_iff_ne.mpr c6
            by_cases c7 : a0 = 83
            · rw [if_pos c7] at H
              have c7b0 : (a0 == 83) = true := beq_iff_eq.mpr c7
              have c7b1 : (a0 != 83) = false := bne_eq_false_iff_eq.mpr c7
              clear c7
              have H' := Aside0.mk H
              clear H
              go_wp2
              go_meet
              case rel => exact ⟨_, ((a0 == 83)), (by first | rfl | (simp; done) | (simp [*]; done)), H', ⟨by first | omega | exact Nat.le_refl _⟩, by repeat (first | exact Drawn0.refl _ | apply Drawn0.step)⟩
            · rw [if_neg c7] at H
              have c7b0 : (a0 == 83) = false := beq_eq_false_iff_ne.mpr c7
              have c7b1 : (a0 != 83) = true := bne_iff_ne.mpr c7
              by_cases c8 : a0 = 88
              · rw [if_pos c8] at H
                have c8b0 : (a0 == 88) = true := beq_iff_eq.mpr c8
                have c8b1 : (a0 != 88) = false := bne_eq_false_iff_eq.mpr c8
                clear c8
                have H' := Aside0.mk H
                clear H
                go_wp2
                go_meet
                case rel => exact ⟨_, ((a0 == 88)), (by first | rfl | (simp; done) | (simp [*]; done)), H', ⟨by first | omega | exact Nat.le_refl _⟩, by repeat (first | exact Drawn0.refl _ | apply Drawn0.step)⟩
              · rw [if_neg c8] at H
                have c8b0 : (a0 == 88) = false := beq_eq_false_iff_ne.mpr c8
                have c8b1 : (a0 != 88) = true := bne_iff_ne.mpr c8
                by_cases c9 : a0 = 90
                · rw [if_pos c9] at H
                  have c9b0 : (a0 == 90) = true := beq_iff_eq.mpr c9
                  have c9b1 : (a0 != 90) = false := bne_eq_false_iff_eq.mpr c9
                  clear c9
                  have H' := Aside0.mk H
                  clear H
                  go_wp2
                  go_meet
                  case rel => exact ⟨_, ((a0 == 90)), (by first | rfl | (simp; done) | (simp [*]; done)), H', ⟨by first | omega | exact Nat.le_refl _⟩, by repeat (first | exact Drawn0.refl _ | apply Drawn0.step)⟩
                · rw [if_neg c9] at H
                  have c9b0 : (a0 == 90) = false := beq_eq_false_iff_ne.mpr c9
                  have c9b1 : (a0 != 90) = true := bne_iff_ne.mpr c9
                  have H' := Aside0.mk H
                  clear H
                  go_wp2
                  go_meet
                  case rel => exact ⟨_, ((a0 == 32)), (by first | rfl | (simp; done) | (simp [*]; done)), H', ⟨by first | omega | exact Nat.le_refl _⟩, by repeat (first | exact Drawn0.refl _ | apply Drawn0.step)⟩
  case rest =>
    clear HC2
    try clear p2
    try clear c3
    try clear c3b0
    try clear c3b1
    try clear c4
    try clear c4b0
    try clear c4b1
    try clear c5
    try clear c5b0
    try clear c5b1
    try clear c6
    try clear c6b0
    try clear c6b1
    try clear c7
    try clear c7b0
    try clear c7b1
    try clear c8
    try clear c8b0
    try clear c8b1
    try clear c9
    try clear c9b0
    try clear c9b1
    obtain ⟨kq, x4_1, rfl, HA, HJ1, ⟨mc1, rfl⟩⟩ := hcut
    cases kq with
    | zero => exact absurd HA.out (by simp [spec_l04Turn.j0])
    | succ kj1 =>
      have H := HA.out
      clear HA
      simp only [spec_l04Turn.j0] at H
      by_cases c10 : x4_1 = true
      · subst c10
        have H1 : (some a0) = some r := by rw [if_pos rfl] at H; exact H
        clear H
        have H := H1
        clear H1
        obtain rfl := Option.some.inj H
        go_wp2
        go_ret
        exact ⟨by first | rfl | (simp; done) | (simp [*]; done), by repeat (first | exact Drawn0.refl _ | apply Drawn0.step)⟩
      · replace c10 := Bool.eq_false_iff.mpr c10
        subst c10
        have H1 : (if a0 = 77 then (some 87) else (if a0 = 87 then (some 77) else (some 0))) = some r := by rw [if_neg (show ¬ (false = true) by decide)] at H; exact H
        clear H
        have H := H1
        clear H1
        by_cases c11 : a0 = 77
        · rw [if_pos c11] at H
          have c11b0 : (a0 == 77) = true := beq_iff_eq.mpr c11
          have c11b1 : (a0 != 77) = false := bne_eq_false_iff_eq.mpr c11
          clear c11
          obtain rfl := Option.some.inj H
          go_wp2
          go_ret
          exact ⟨by first | rfl | (simp; done) | (simp [*]; done), by repeat (first | exact Drawn0.refl _ | apply Drawn0.step)⟩
        · rw [if_neg c11] at H
          have c11b0 : (a0 == 77) = false := beq_eq_false_iff_ne.mpr c11
          have c11b1 : (a0 != 77) = true := bne_iff_ne.mpr c11
          by_cases c12 : a0 = 87
          · rw [if_pos c12] at H
            have c12b0 : (a0 == 87) = true := beq_iff_eq.mpr c12
            have c12b1 : (a0 != 87) = false := bne_eq_false_iff_eq.mpr c12
            clear c12
            obtain rfl := Option.some.inj H
            go_wp2
            go_ret
            exact ⟨by first | rfl | (simp; done) | (simp [*]; done), by repeat (first | exact Drawn0.refl _ | apply Drawn0.step)⟩
          · rw [if_neg c12] at H
            have c12b0 : (a0 == 87) = false := beq_eq_false_iff_ne.mpr c12
            have c12b1 : (a0 != 87) = true := bne_iff_ne.mpr c12
            obtain rfl := Option.some.inj H
            go_wp2
            go_ret
            exact ⟨by first | rfl | (simp; done) | (simp [*]; done), by repeat (first | exact Drawn0.refl _ | apply Drawn0.step)⟩

end Go.Proofs.YteahgkijaehobaaDoor.Q
