-- WRITTEN BY A PROGRAM OF THIS SESSION (xprint.py, which runs the kit's printer with changes). Lean checks it.
import Derived.Test.YtiapaggkbhdnkaaDoorQ0
namespace Go.Proofs.YtiapaggkbhdnkaaDoor.Q
open Go.RowKit Go.Proofs.YtiapaggkbhdnkaaDoorW.PrintWords Go.Proofs.YtiapaggkbhdnkaaDoorW.PrintLast Go.Proofs.YtiapaggkbhdnkaaDoorW.PrintMore
set_option linter.unusedVariables false
set_option linter.unusedSimpArgs false
attribute [local go_sem] max2_int min2_int max_two min_two max_three min_three max_four min_four   -- for this text's walks alone
/-! ### spec_l02Text: function 37 -/
def spec_l02Text.l0 : Nat → List (S51) → ByteArray → Int → Option (ByteArray)
  | 0, _, _, _ => none
  | k + 1, x0, x3, x4 => if x4 < (x0.length : Int) then (if x4 > 0 then (if x3.size + 1 ≤ 9223372036854775807 then (if 0 ≤ x4 then (if ((rd_T51 x0 x4).f0).size + 1 ≤ 9223372036854775807 then (if (((rd_T51 x0 x4).f0) ++ (⟨#[61]⟩ : ByteArray)).size + ((rd_T51 x0 x4).f1).size ≤ 9223372036854775807 then (if (x3 ++ (⟨#[32]⟩ : ByteArray)).size + ((((rd_T51 x0 x4).f0) ++ (⟨#[61]⟩ : ByteArray)) ++ ((rd_T51 x0 x4).f1)).size ≤ 9223372036854775807 then (spec_l02Text.l0 k x0 ((x3 ++ (⟨#[32]⟩ : ByteArray)) ++ ((((rd_T51 x0 x4).f0) ++ (⟨#[61]⟩ : ByteArray)) ++ ((rd_T51 x0 x4).f1))) (wrap64 (x4 + 1))) else (none)) else (none)) else (none)) else (none)) else (none)) else (if 0 ≤ x4 then (if ((rd_T51 x0 x4).f0).size + 1 ≤ 9223372036854775807 then (if (((rd_T51 x0 x4).f0) ++ (⟨#[61]⟩ : ByteArray)).size + ((rd_T51 x0 x4).f1).size ≤ 9223372036854775807 then (if x3.size + ((((rd_T51 x0 x4).f0) ++ (⟨#[61]⟩ : ByteArray)) ++ ((rd_T51 x0 x4).f1)).size ≤ 9223372036854775807 then (spec_l02Text.l0 k x0 (x3 ++ ((((rd_T51 x0 x4).f0) ++ (⟨#[61]⟩ : ByteArray)) ++ ((rd_T51 x0 x4).f1))) (wrap64 (x4 + 1))) else (none)) else (none)) else (none)) else (none))) else (some x3)
def spec_l02Text.f (k : Nat) (l0 : List (S51)) : Option (ByteArray) := spec_l02Text.l0 k l0 (⟨#[]⟩ : ByteArray) 0
theorem spec_l02Text.mono_l : ∀ k, (∀ y0 y1 y2, LeO (spec_l02Text.l0 k y0 y1 y2) (spec_l02Text.l0 (k + 1) y0 y1 y2))
  | 0 => fun _ _ _ r h => by simp [spec_l02Text.l0] at h
  | k + 1 => by
    have ih0 := spec_l02Text.mono_l k
    · intro y0 y1 y2
      unfold spec_l02Text.l0
      repeat' first
      | (with_reducible exact ih0 _ _ _)
      | (with_reducible exact LeO.refl _)
      | (with_reducible exact LeO.none _)
      | (with_reducible refine LeO.ite ?_ ?_)
      | (with_reducible refine LeO.bind ?_ (fun _ => ?_))
      | exact ih0 _ _ _
      | exact LeO.none _
      | refine LeO.ite ?_ ?_
      | refine LeO.bind ?_ (fun _ => ?_)
theorem spec_l02Text.mono : ∀ a0 k, LeO (spec_l02Text.f k a0) (spec_l02Text.f (k + 1) a0) := by
  intro a0 k
  have ih0 := spec_l02Text.mono_l k
  unfold spec_l02Text.f
  repeat' first
      | (with_reducible exact ih0 _ _ _)
      | (with_reducible exact LeO.refl _)
      | (with_reducible exact LeO.none _)
      | (with_reducible refine LeO.ite ?_ ?_)
      | (with_reducible refine LeO.bind ?_ (fun _ => ?_))
      | exact ih0 _ _ _
      | exact LeO.none _
      | refine LeO.ite ?_ ?_
      | refine LeO.bind ?_ (fun _ => ?_)
set_option maxHeartbeats 8000000 in
set_option maxRecDepth 100000 in
theorem spec_l02Text.calls (k : Nat) (A0 : Option Addr) (c0 : Nat) (l0 : List (S51)) (r : ByteArray) (w : World) (hr0 : Kd.C k51 w A0 l0.length l0) (hc0 : l0.length ≤ c0) (h : spec_l02Text.f k l0 = some r) :
    Calls Tryd.prog 37 #[.slice A0 l0.length c0] w fun e w' => e = .returned (.string r) ∧ Drawn0 w w' := by
  have HR0 := Aside0.mk hr0
  have HC0 := Aside0.mk hc0
  clear hr0 hc0
  have H : (spec_l02Text.l0 k l0 (⟨#[]⟩ : ByteArray) 0) = some r := h
  clear h
  have H' := Aside0.mk H
  clear H
  go_enter Tryd.func37, Tryd.ntmps37
  go_wp2
  repeat (go_quiet (fail); try go_wp2)
  go_loopg [3, 4] k (fun kq v3 v4 w' => ∃ (x3_1 : ByteArray) (x4_1 : Int), v3 = .string x3_1 ∧ v4 = .int .i64 x4_1 ∧ Aside0 (spec_l02Text.l0 kq l0 x3_1 x4_1 = some r) ∧ Aside0 (kq ≤ k) ∧ Drawn0 w w')
  case atStart => exact ⟨((⟨#[]⟩ : ByteArray)), (0), (by first | rfl | (simp; done) | (simp [*]; done)), (by first | rfl | (simp; done) | (simp [*]; done)), H', ⟨Nat.le_refl _⟩, by repeat (first | exact Drawn0.refl _ | apply Drawn0.step)⟩
  case round =>
    clear H'
    obtain ⟨x3_1, x4_1, rfl, rfl, HA, HK1, ⟨m1, rfl⟩⟩ := hrel
    cases gk with
    | zero => exact absurd HA.out (by simp [spec_l02Text.l0])
    | succ k1 =>
      have H := HA.out
      clear HA
      simp only [spec_l02Text.l0] at H
      by_cases c2 : x4_1 < (l0.length : Int)
      · rw [if_pos c2] at H
        have c2b0 : decide (x4_1 < (l0.length : Int)) = true := decide_eq_true c2
        clear c2
        by_cases c3 : x4_1 > 0
        · rw [if_pos c3] at H
          have c3b0 : decide (0 < x4_1) = true := decide_eq_true c3
          clear c3
          by_cases c4 : x3_1.size + 1 ≤ 9223372036854775807
          · rw [if_pos c4] at H
            have c4b0 := eq_true c4
            have c4b1 : decide (x3_1.size + 1 ≤ 9223372036854775807) = true := decide_eq_true c4
            try have c4b2 : (9223372036854775807 < x3_1.size + 1) = False := eq_false (Nat.not_lt.2 c4)
            by_cases c5 : 0 ≤ x4_1
            · rw [if_pos c5] at H
              have c5b0 : decide (0 ≤ x4_1) = true := decide_eq_true c5
              clear c5
              by_cases c6 : ((rd_T51 l0 x4_1).f0).size + 1 ≤ 9223372036854775807
              · rw [if_pos c6] at H
                have c6b0 := eq_true c6
                have c6b1 : decide (((rd_T51 l0 x4_1).f0).size + 1 ≤ 9223372036854775807) = true := decide_eq_true c6
                try have c6b2 : (9223372036854775807 < ((rd_T51 l0 x4_1).f0).size + 1) = False := eq_false (Nat.not_lt.2 c6)
                by_cases c7 : (((rd_T51 l0 x4_1).f0) ++ (⟨#[61]⟩ : ByteArray)).size + ((rd_T51 l0 x4_1).f1).size ≤ 9223372036854775807
                · rw [if_pos c7] at H
                  have c7b0 := eq_true c7
                  have c7b1 : decide ((((rd_T51 l0 x4_1).f0) ++ (⟨#[61]⟩ : ByteArray)).size + ((rd_T51 l0 x4_1).f1).size ≤ 9223372036854775807) = true := decide_eq_true c7
                  try have c7b2 : (9223372036854775807 < (((rd_T51 l0 x4_1).f0) ++ (⟨#[61]⟩ : ByteArray)).size + ((rd_T51 l0 x4_1).f1).size) = False := eq_false (Nat.not_lt.2 c7)
                  by_cases c8 : (x3_1 ++ (⟨#[32]⟩ : ByteArray)).size + ((((rd_T51 l0 x4_1).f0) ++ (⟨#[61]⟩ : ByteArray)) ++ ((rd_T51 l0 x4_1).f1)).size ≤ 9223372036854775807
                  · rw [if_pos c8] at H
                    have c8b0 := eq_true c8
                    have c8b1 : decide ((x3_1 ++ (⟨#[32]⟩ : ByteArray)).size + ((((rd_T51 l0 x4_1).f0) ++ (⟨#[61]⟩ : ByteArray)) ++ ((rd_T51 l0 x4_1).f1)).size ≤ 9223372036854775807) = true := decide_eq_true c8
                    try have c8b2 : (9223372036854775807 < (x3_1 ++ (⟨#[32]⟩ : ByteArray)).size + ((((rd_T51 l0 x4_1).f0) ++ (⟨#[61]⟩ : ByteArray)) ++ ((rd_T51 l0 x4_1).f1)).size) = False := eq_false (Nat.not_lt.2 c8)
                    have H' := Aside0.mk H
                    clear H
                    have p154 : 0 ≤ (x4_1 : Int) := of_decide_eq_true (by first | (with_reducible assumption) | assumption)
                    have q154 : x4_1 < (l0.length : Int) := of_decide_eq_true (by first | (with_reducible assumption) | assumption)
                    obtain ⟨ad154, e154, hx154_0, hx154_1⟩ := at_T51 HR0.out x4_1 p154 q154
                    cases e154
                    replace p154 := eq_true p154
                    replace q154 := eq_true q154
                    have p155 : 0 ≤ (x4_1 : Int) := of_decide_eq_true (by first | (with_reducible assumption) | assumption)
                    have q155 : x4_1 < (l0.length : Int) := of_decide_eq_true (by first | (with_reducible assumption) | assumption)
                    obtain ⟨ad155, e155, hx155_0, hx155_1⟩ := at_T51 HR0.out x4_1 p155 q155
                    obtain rfl : ad154 = ad155 := (by injection e155)
                    replace p155 := eq_true p155
                    replace q155 := eq_true q155
                    go_wp2
                    repeat (go_quiet (fail); try go_wp2)
                    go_roundg k1
                    case measure => have := HK1.out; omega
                    case rel => exact ⟨((x3_1 ++ (⟨#[32]⟩ : ByteArray)) ++ ((((rd_T51 l0 x4_1).f0) ++ (⟨#[61]⟩ : ByteArray)) ++ ((rd_T51 l0 x4_1).f1))), (wrap64 (x4_1 + 1)), (by first | rfl | (simp; done) | (simp [*]; done)), (by first | rfl | (simp; done) | (simp [*]; done)), H', ⟨by have := HK1.out; omega⟩, by repeat (first | exact Drawn0.refl _ | apply Drawn0.step)⟩
                  · rw [if_neg c8] at H
                    exact absurd H (by simp)
                · rw [if_neg c7] at H
                  exact absurd H (by simp)
              · rw [if_neg c6] at H
                exact absurd H (by simp)
            · rw [if_neg c5] at H
              exact absurd H (by simp)
          · rw [if_neg c4] at H
            exact absurd H (by simp)
        · rw [if_neg c3] at H
          have c3b0 : decide (0 < x4_1) = false := decide_eq_false c3
          clear c3
          by_cases c9 : 0 ≤ x4_1
          · rw [if_pos c9] at H
            have c9b0 : decide (0 ≤ x4_1) = true := decide_eq_true c9
            clear c9
            by_cases c10 : ((rd_T51 l0 x4_1).f0).size + 1 ≤ 9223372036854775807
            · rw [if_pos c10] at H
              have c10b0 := eq_true c10
              have c10b1 : decide (((rd_T51 l0 x4_1).f0).size + 1 ≤ 9223372036854775807) = true := decide_eq_true c10
              try have c10b2 : (9223372036854775807 < ((rd_T51 l0 x4_1).f0).size + 1) = False := eq_false (Nat.not_lt.2 c10)
              by_cases c11 : (((rd_T51 l0 x4_1).f0) ++ (⟨#[61]⟩ : ByteArray)).size + ((rd_T51 l0 x4_1).f1).size ≤ 9223372036854775807
              · rw [if_pos c11] at H
                have c11b0 := eq_true c11
                have c11b1 : decide ((((rd_T51 l0 x4_1).f0) ++ (⟨#[61]⟩ : ByteArray)).size + ((rd_T51 l0 x4_1).f1).size ≤ 9223372036854775807) = true := decide_eq_true c11
                try have c11b2 : (9223372036854775807 < (((rd_T51 l0 x4_1).f0) ++ (⟨#[61]⟩ : ByteArray)).size + ((rd_T51 l0 x4_1).f1).size) = False := eq_false (Nat.not_lt.2 c11)
                by_cases c12 : x3_1.size + ((((rd_T51 l0 x4_1).f0) ++ (⟨#[61]⟩ : ByteArray)) ++ ((rd_T51 l0 x4_1).f1)).size ≤ 9223372036854775807
                · rw [if_pos c12] at H
                  have c12b0 := eq_true c12
                  have c12b1 : decide (x3_1.size + ((((rd_T51 l0 x4_1).f0) ++ (⟨#[61]⟩ : ByteArray)) ++ ((rd_T51 l0 x4_1).f1)).size ≤ 9223372036854775807) = true := decide_eq_true c12
                  try have c12b2 : (9223372036854775807 < x3_1.size + ((((rd_T51 l0 x4_1).f0) ++ (⟨#[61]⟩ : ByteArray)) ++ ((rd_T51 l0 x4_1).f1)).size) = False := eq_false (Nat.not_lt.2 c12)
                  have H' := Aside0.mk H
                  clear H
                  have p156 : 0 ≤ (x4_1 : Int) := of_decide_eq_true (by first | (with_reducible assumption) | assumption)
                  have q156 : x4_1 < (l0.length : Int) := of_decide_eq_true (by first | (with_reducible assumption) | assumption)
                  obtain ⟨ad156, e156, hx156_0, hx156_1⟩ := at_T51 HR0.out x4_1 p156 q156
                  cases e156
                  replace p156 := eq_true p156
                  replace q156 := eq_true q156
                  have p157 : 0 ≤ (x4_1 : Int) := of_decide_eq_true (by first | (with_reducible assumption) | assumption)
                  have q157 : x4_1 < (l0.length : Int) := of_decide_eq_true (by first | (with_reducible assumption) | assumption)
                  obtain ⟨ad157, e157, hx157_0, hx157_1⟩ := at_T51 HR0.out x4_1 p157 q157
                  obtain rfl : ad156 = ad157 := (by injection e157)
                  replace p157 := eq_true p157
                  replace q157 := eq_true q157
                  go_wp2
                  repeat (go_quiet (fail); try go_wp2)
                  go_roundg k1
                  case measure => have := HK1.out; omega
                  case rel => exact ⟨(x3_1 ++ ((((rd_T51 l0 x4_1).f0) ++ (⟨#[61]⟩ : ByteArray)) ++ ((rd_T51 l0 x4_1).f1))), (wrap64 (x4_1 + 1)), (by first | rfl | (simp; done) | (simp [*]; done)), (by first | rfl | (simp; done) | (simp [*]; done)), H', ⟨by have := HK1.out; omega⟩, by repeat (first | exact Drawn0.refl _ | apply Drawn0.step)⟩
                · rw [if_neg c12] at H
                  exact absurd H (by simp)
              · rw [if_neg c11] at H
                exact absurd H (by simp)
            · rw [if_neg c10] at H
              exact absurd H (by simp)
          · rw [if_neg c9] at H
            exact absurd H (by simp)
      · rw [if_neg c2] at H
        have c2b0 : decide (x4_1 < (l0.length : Int)) = false := decide_eq_false c2
        clear c2
        obtain rfl := Option.some.inj H
        go_wp2
        repeat (go_quiet (fail); try go_wp2)
        go_ret
        exact ⟨by first | rfl | (simp; done) | (simp [*]; done), by repeat (first | exact Drawn0.refl _ | apply Drawn0.step)⟩

end Go.Proofs.YtiapaggkbhdnkaaDoor.Q
