-- WRITTEN BY A PROGRAM OF THIS SESSION (xprint.py, which runs the kit's printer with changes). Lean checks it.
import Derived.Test.YtnacfljfalkonaaQ0
import Derived.Test.YtnacfljfalkonaaQVal
namespace Go.Proofs.Ytnacfljfalkonaa.Q
open Go.RowKit Go.Proofs.YtnacfljfalkonaaW.PrintWords Go.Proofs.YtnacfljfalkonaaW.PrintLast Go.Proofs.YtnacfljfalkonaaW.PrintMore
set_option linter.unusedVariables false
set_option linter.unusedSimpArgs false
attribute [local go_sem] max2_int min2_int max_two min_two max_three min_three max_four min_four   -- for this text's walks alone
/-! ### spec_l03Pair: function 41 -/
def spec_l03Pair.l0 : Nat → Int → Int → Int → List (S77) → List (S79) → Option (Bool)
  | 0, _, _, _, _, _ => none
  | k + 1, x1, x2, x7, x1000, x1001 => if x7 < (x1001.length : Int) then (if 0 ≤ x7 then (if ((rd_T79 x1001 x7).f0) = x1 then (if ((rd_T79 x1001 x7).f1) = x2 then (some true) else (spec_l03Pair.l0 k x1 x2 (wrap64 (x7 + 1)) x1000 x1001)) else (spec_l03Pair.l0 k x1 x2 (wrap64 (x7 + 1)) x1000 x1001)) else (none)) else (some false)
def spec_l03Pair.f (k : Nat) (s0_0 : List (S77)) (s0_1 : List (S79)) (a1 : Int) (a2 : Int) : Option (Bool) := spec_l03Pair.l0 k a1 a2 0 s0_0 s0_1
theorem spec_l03Pair.mono_l : ∀ k, (∀ y0 y1 y2 y3 y4, LeO (spec_l03Pair.l0 k y0 y1 y2 y3 y4) (spec_l03Pair.l0 (k + 1) y0 y1 y2 y3 y4))
  | 0 => fun _ _ _ _ _ r h => by simp [spec_l03Pair.l0] at h
  | k + 1 => by
    have ih0 := spec_l03Pair.mono_l k
    · intro y0 y1 y2 y3 y4
      unfold spec_l03Pair.l0
      repeat' first
      | (with_reducible exact ih0 _ _ _ _ _)
      | (with_reducible exact LeO.refl _)
      | (with_reducible exact LeO.none _)
      | (with_reducible refine LeO.ite ?_ ?_)
      | (with_reducible refine LeO.bind ?_ (fun _ => ?_))
      | exact ih0 _ _ _ _ _
      | exact LeO.none _
      | refine LeO.ite ?_ ?_
      | refine LeO.bind ?_ (fun _ => ?_)
theorem spec_l03Pair.mono : ∀ a0 a1 a2 a3 k, LeO (spec_l03Pair.f k a0 a1 a2 a3) (spec_l03Pair.f (k + 1) a0 a1 a2 a3) := by
  intro a0 a1 a2 a3 k
  have ih0 := spec_l03Pair.mono_l k
  unfold spec_l03Pair.f
  repeat' first
      | (with_reducible exact ih0 _ _ _ _ _)
      | (with_reducible exact LeO.refl _)
      | (with_reducible exact LeO.none _)
      | (with_reducible refine LeO.ite ?_ ?_)
      | (with_reducible refine LeO.bind ?_ (fun _ => ?_))
      | exact ih0 _ _ _ _ _
      | exact LeO.none _
      | refine LeO.ite ?_ ?_
      | refine LeO.bind ?_ (fun _ => ?_)
set_option maxHeartbeats 8000000 in
set_option maxRecDepth 100000 in
theorem spec_l03Pair.calls (k : Nat) (g : Nat) (s0_0 : List (S77)) (s0_1 : List (S79)) (a1 : Int) (a2 : Int) (r : Bool) (w0 w : World) (hI : IsS31 w0 w g s0_0 s0_1) (hB : Below w0.heap.size w0 w) (h : spec_l03Pair.f k s0_0 s0_1 a1 a2 = some r) :
    Calls Try.prog 41 #[.pointer (some ⟨g, 0, none⟩), .int .u8 a1, .int .u8 a2] w fun e w' => e = .returned (.bool r) ∧ IsS31 w0 w' g s0_0 s0_1 ∧ Below w0.heap.size w0 w' ∧ KeepBut w w' g none := by
  have HI0 := Aside0.mk hI
  have HK := Aside0.mk (KeepBut.refl w g none)
  have HL := Aside0.mk hB.size
  clear hI
  have HW0 := Aside0.mk hB.size
  have HB := Aside0.mk hB
  clear hB
  have H : (spec_l03Pair.l0 k a1 a2 0 s0_0 s0_1) = some r := h
  clear h
  have H' := Aside0.mk H
  clear H
  go_enter Try.func41, Try.ntmps41
  go_wp2
  go_loopg [7] k (fun kq v7 w' => ∃ (x7_1 : Int), v7 = .int .i64 x7_1 ∧ Aside0 (spec_l03Pair.l0 kq a1 a2 x7_1 s0_0 s0_1 = some r) ∧ Aside0 (kq ≤ k) ∧ Aside0 (IsS31 w0 w' g s0_0 s0_1) ∧ Aside0 (KeepBut w w' g none) ∧ Aside0 (Below w0.heap.size w0 w'))
  case atStart => exact ⟨(0), (by first | rfl | (simp; done) | (simp [*]; done)), H', ⟨Nat.le_refl _⟩, ⟨by repeat (first | (with_reducible first | exact HI0.out | apply IsS31.alloc | apply IsS31.drewN | apply IsS31.drew) | exact HI0.out)⟩, ⟨by repeat (first | (with_reducible first | exact HK.out | apply KeepBut.set_ | apply keep_drewN | apply keep_drew | apply keep_alloc) | exact HK.out)⟩, ⟨by repeat (first | (with_reducible first | exact HB.out | apply below_alloc | apply pw_below_drewN | apply below_drew1 | refine below_set ?_ (IsS31.ge HI0.out)) | exact HB.out)⟩⟩
  case round =>
    clear H'
    try clear p2
    obtain ⟨x7_1, rfl, HA, HK1, HI0, HK, HB⟩ := hrel
    cases gk with
    | zero => exact absurd HA.out (by simp [spec_l03Pair.l0])
    | succ k1 =>
      have H := HA.out
      clear HA
      simp only [spec_l03Pair.l0] at H
      by_cases c4 : x7_1 < (s0_1.length : Int)
      · rw [if_pos c4] at H
        have c4b0 : decide (x7_1 < (s0_1.length : Int)) = true := decide_eq_true c4
        clear c4
        by_cases c5 : 0 ≤ x7_1
        · rw [if_pos c5] at H
          have c5b0 : decide (0 ≤ x7_1) = true := decide_eq_true c5
          clear c5
          by_cases c6 : ((rd_T79 s0_1 x7_1).f0) = a1
          · rw [if_pos c6] at H
            have c6b0 : (((rd_T79 s0_1 x7_1).f0) == a1) = true := beq_iff_eq.mpr c6
            have c6b1 : (((rd_T79 s0_1 x7_1).f0) != a1) = false := bne_eq_false_iff_eq.mpr c6
            clear c6
            by_cases c7 : ((rd_T79 s0_1 x7_1).f1) = a2
            · rw [if_pos c7] at H
              have c7b0 : (((rd_T79 s0_1 x7_1).f1) == a2) = true := beq_iff_eq.mpr c7
              have c7b1 : (((rd_T79 s0_1 x7_1).f1) != a2) = false := bne_eq_false_iff_eq.mpr c7
              clear c7
              obtain rfl := Option.some.inj H
              obtain ⟨ASz8_0, cSz8_0, ASz8_1, cSz8_1, HGz8, hgz8, HSz8_0, HSz8_1⟩ := HI0.out
              have hcz8_0 := cellS31_0 HGz8
              have hcz8_1 := cellS31_1 HGz8
              clear HGz8 hgz8
              have p194 : 0 ≤ (x7_1 : Int) := of_decide_eq_true (by first | (with_reducible assumption) | assumption)
              have q194 : x7_1 < (s0_1.length : Int) := of_decide_eq_true (by first | (with_reducible assumption) | assumption)
              obtain ⟨ad194, e194, hx194_0, hx194_1⟩ := at_T79 HSz8_1 x7_1 p194 q194
              cases e194
              replace hx194_0 := pw_cell_below HB.out hx194_0
              replace hx194_1 := pw_cell_below HB.out hx194_1
              replace p194 := eq_true p194
              replace q194 := eq_true q194
              have p195 : 0 ≤ (x7_1 : Int) := of_decide_eq_true (by first | (with_reducible assumption) | assumption)
              have q195 : x7_1 < (s0_1.length : Int) := of_decide_eq_true (by first | (with_reducible assumption) | assumption)
              obtain ⟨ad195, e195, hx195_0, hx195_1⟩ := at_T79 HSz8_1 x7_1 p195 q195
              obtain rfl : ad194 = ad195 := (by injection e195)
              replace hx195_0 := pw_cell_below HB.out hx195_0
              replace hx195_1 := pw_cell_below HB.out hx195_1
              replace p195 := eq_true p195
              replace q195 := eq_true q195
              go_wp2
              go_ret
              exact ⟨by first | rfl | (simp [errW_none, errW_some] <;> rfl) | (simp [*, errW_none, errW_some] <;> rfl), by repeat (first | (with_reducible first | exact HI0.out | apply IsS31.alloc | apply IsS31.drewN | apply IsS31.drew) | exact HI0.out), by repeat (first | (with_reducible first | exact HB.out | apply below_alloc | apply pw_below_drewN | apply below_drew1 | refine below_set ?_ (IsS31.ge HI0.out)) | exact HB.out), by repeat (first | (with_reducible first | exact HK.out | apply KeepBut.set_ | apply keep_drewN | apply keep_drew | apply keep_alloc) | exact HK.out)⟩
            · rw [if_neg c7] at H
              have c7b0 : (((rd_T79 s0_1 x7_1).f1) == a2) = false := beq_eq_false_iff_ne.mpr c7
              have c7b1 : (((rd_T79 s0_1 x7_1).f1) != a2) = true := bne_iff_ne.mpr c7
              have H' := Aside0.mk H
              clear H
              obtain ⟨ASz9_0, cSz9_0, ASz9_1, cSz9_1, HGz9, hgz9, HSz9_0, HSz9_1⟩ := HI0.out
              have hcz9_0 := cellS31_0 HGz9
              have hcz9_1 := cellS31_1 HGz9
              clear HGz9 hgz9
              have p194 : 0 ≤ (x7_1 : Int) := of_decide_eq_true (by first | (with_reducible assumption) | assumption)
              have q194 : x7_1 < (s0_1.length : Int) := of_decide_eq_true (by first | (with_reducible assumption) | assumption)
              obtain ⟨ad194, e194, hx194_0, hx194_1⟩ := at_T79 HSz9_1 x7_1 p194 q194
              cases e194
              replace hx194_0 := pw_cell_below HB.out hx194_0
              replace hx194_1 := pw_cell_below HB.out hx194_1
              replace p194 := eq_true p194
              replace q194 := eq_true q194
              have p195 : 0 ≤ (x7_1 : Int) := of_decide_eq_true (by first | (with_reducible assumption) | assumption)
              have q195 : x7_1 < (s0_1.length : Int) := of_decide_eq_true (by first | (with_reducible assumption) | assumption)
              obtain ⟨ad195, e195, hx195_0, hx195_1⟩ := at_T79 HSz9_1 x7_1 p195 q195
              obtain rfl : ad194 = ad195 := (by injection e195)
              replace hx195_0 := pw_cell_below HB.out hx195_0
              replace hx195_1 := pw_cell_below HB.out hx195_1
              replace p195 := eq_true p195
              replace q195 := eq_true q195
              go_wp2
              go_roundg k1
              case measure => have := HK1.out; omega
              case rel => exact ⟨(wrap64 (x7_1 + 1)), (by first | rfl | (simp; done) | (simp [*]; done)), H', ⟨by have := HK1.out; omega⟩, ⟨by repeat (first | (with_reducible first | exact HI0.out | apply IsS31.alloc | apply IsS31.drewN | apply IsS31.drew) | exact HI0.out)⟩, ⟨by repeat (first | (with_reducible first | exact HK.out | apply KeepBut.set_ | apply keep_drewN | apply keep_drew | apply keep_alloc) | exact HK.out)⟩, ⟨by repeat (first | (with_reducible first | exact HB.out | apply below_alloc | apply pw_below_drewN | apply below_drew1 | refine below_set ?_ (IsS31.ge HI0.out)) | exact HB.out)⟩⟩
          · rw [if_neg c6] at H
            have c6b0 : (((rd_T79 s0_1 x7_1).f0) == a1) = false := beq_eq_false_iff_ne.mpr c6
            have c6b1 : (((rd_T79 s0_1 x7_1).f0) != a1) = true := bne_iff_ne.mpr c6
            have H' := Aside0.mk H
            clear H
            obtain ⟨ASz10_0, cSz10_0, ASz10_1, cSz10_1, HGz10, hgz10, HSz10_0, HSz10_1⟩ := HI0.out
            have hcz10_0 := cellS31_0 HGz10
            have hcz10_1 := cellS31_1 HGz10
            clear HGz10 hgz10
            have p194 : 0 ≤ (x7_1 : Int) := of_decide_eq_true (by first | (with_reducible assumption) | assumption)
            have q194 : x7_1 < (s0_1.length : Int) := of_decide_eq_true (by first | (with_reducible assumption) | assumption)
            obtain ⟨ad194, e194, hx194_0, hx194_1⟩ := at_T79 HSz10_1 x7_1 p194 q194
            cases e194
            replace hx194_0 := pw_cell_below HB.out hx194_0
            replace hx194_1 := pw_cell_below HB.out hx194_1
            replace p194 := eq_true p194
            replace q194 := eq_true q194
            go_wp2
            go_roundg k1
            case measure => have := HK1.out; omega
            case rel => exact ⟨(wrap64 (x7_1 + 1)), (by first | rfl | (simp; done) | (simp [*]; done)), H', ⟨by have := HK1.out; omega⟩, ⟨by repeat (first | (with_reducible first | exact HI0.out | apply IsS31.alloc | apply IsS31.drewN | apply IsS31.drew) | exact HI0.out)⟩, ⟨by repeat (first | (with_reducible first | exact HK.out | apply KeepBut.set_ | apply keep_drewN | apply keep_drew | apply keep_alloc) | exact HK.out)⟩, ⟨by repeat (first | (with_reducible first | exact HB.out | apply below_alloc | apply pw_below_drewN | apply below_drew1 | refine below_set ?_ (IsS31.ge HI0.out)) | exact HB.out)⟩⟩
        · rw [if_neg c5] at H
          exact absurd H (by simp)
      · rw [if_neg c4] at H
        have c4b0 : decide (x7_1 < (s0_1.length : Int)) = false := decide_eq_false c4
        clear c4
        obtain rfl := Option.some.inj H
        obtain ⟨ASz11_0, cSz11_0, ASz11_1, cSz11_1, HGz11, hgz11, HSz11_0, HSz11_1⟩ := HI0.out
        have hcz11_0 := cellS31_0 HGz11
        have hcz11_1 := cellS31_1 HGz11
        clear HGz11 hgz11
        go_wp2
        go_ret
        exact ⟨by first | rfl | (simp [errW_none, errW_some] <;> rfl) | (simp [*, errW_none, errW_some] <;> rfl), by repeat (first | (with_reducible first | exact HI0.out | apply IsS31.alloc | apply IsS31.drewN | apply IsS31.drew) | exact HI0.out), by repeat (first | (with_reducible first | exact HB.out | apply below_alloc | apply pw_below_drewN | apply below_drew1 | refine below_set ?_ (IsS31.ge HI0.out)) | exact HB.out), by repeat (first | (with_reducible first | exact HK.out | apply KeepBut.set_ | apply keep_drewN | apply keep_drew | apply keep_alloc) | exact HK.out)⟩

end Go.Proofs.Ytnacfljfalkonaa.Q
