-- WRITTEN BY A PROGRAM OF THIS SESSION (xprint.py, which runs the kit's printer with changes). Lean checks it.
import Derived.Test.YtiapaggkbhdnkaaDoorQ0
import Derived.Test.YtiapaggkbhdnkaaDoorQspecl01Joined
import Derived.Test.YtiapaggkbhdnkaaDoorQspecl01Text
import Derived.Test.YtiapaggkbhdnkaaDoorQL1
import Derived.Test.YtiapaggkbhdnkaaDoorQspecl02Asked
import Derived.Test.YtiapaggkbhdnkaaDoorQspecl02Longs
namespace Go.Proofs.YtiapaggkbhdnkaaDoor.Q
open Go.RowKit Go.Proofs.YtiapaggkbhdnkaaDoorW.PrintWords Go.Proofs.YtiapaggkbhdnkaaDoorW.PrintLast Go.Proofs.YtiapaggkbhdnkaaDoorW.PrintMore
set_option linter.unusedVariables false
set_option linter.unusedSimpArgs false
attribute [local go_sem] max2_int min2_int max_two min_two max_three min_three max_four min_four   -- for this text's walks alone
/-! ### spec_LengthenAll: function 22 -/
mutual
def spec_LengthenAll.l0 : Nat → List (S51) → List ByteArray → Int → Int → Option (List ByteArray × Int)
  | 0, _, _, _, _ => none
  | k + 1, x1, x7, x8, x9 => if x9 < (x7.length : Int) then (if 0 ≤ x9 then ((spec_l02Longs.f k x1 (rdOf ByteArray.empty x7 x9)).bind fun t494 => (if (wrap64 (x8 * (t494.length : Int))) > 200 then (some ((([] : List ByteArray)), 3)) else (spec_LengthenAll.l0 k x1 x7 (wrap64 (x8 * (t494.length : Int))) (wrap64 (x9 + 1))))) else (none)) else (spec_LengthenAll.l1 k x1 x7 (([(([] : List ByteArray))] : List (List ByteArray))) 0)
def spec_LengthenAll.l1 : Nat → List (S51) → List ByteArray → List (List ByteArray) → Int → Option (List ByteArray × Int)
  | 0, _, _, _, _ => none
  | k + 1, x1, x7, x10, x11 => if x11 < (x7.length : Int) then (if 0 ≤ x11 then ((spec_l02Longs.f k x1 (rdOf ByteArray.empty x7 x11)).bind fun t507 => (spec_LengthenAll.l2 k x1 x7 x10 x11 t507 (([] : List (List ByteArray))) 0)) else (none)) else (spec_LengthenAll.l4 k x10 (([] : List ByteArray)) 0)
def spec_LengthenAll.l2 : Nat → List (S51) → List ByteArray → List (List ByteArray) → Int → List ByteArray → List (List ByteArray) → Int → Option (List ByteArray × Int)
  | 0, _, _, _, _, _, _, _ => none
  | k + 1, x1, x7, x10, x11, x12, x13, x14 => if x14 < (x10.length : Int) then (spec_LengthenAll.l3 k x1 x7 x10 x11 x12 x13 x14 0) else (spec_LengthenAll.l1 k x1 x7 x13 (wrap64 (x11 + 1)))
def spec_LengthenAll.l3 : Nat → List (S51) → List ByteArray → List (List ByteArray) → Int → List ByteArray → List (List ByteArray) → Int → Int → Option (List ByteArray × Int)
  | 0, _, _, _, _, _, _, _, _ => none
  | k + 1, x1, x7, x10, x11, x12, x13, x14, x15 => if x15 < (x12.length : Int) then (if 0 ≤ x14 then (if x14 < (x10.length : Int) then (if 0 ≤ x15 then ((some (([] : List ByteArray) : List ByteArray)).bind fun y515 => (if y515.length + (rd_L9 x10 x14).length < 8796093022208 then ((some (y515 ++ (rd_L9 x10 x14) : List ByteArray)).bind fun y518 => ((some (([rdOf ByteArray.empty x12 x15] : List ByteArray) : List ByteArray)).bind fun y521 => (if y518.length + y521.length < 8796093022208 then ((some (([(y518 ++ y521)] : List (List ByteArray)) : List (List ByteArray))).bind fun y527 => (if x13.length + y527.length < 5864062014805 then (spec_LengthenAll.l3 k x1 x7 x10 x11 x12 (x13 ++ y527) x14 (wrap64 (x15 + 1))) else (none))) else (none)))) else (none))) else (none)) else (none)) else (none)) else (spec_LengthenAll.l2 k x1 x7 x10 x11 x12 x13 (wrap64 (x14 + 1)))
def spec_LengthenAll.l4 : Nat → List (List ByteArray) → List ByteArray → Int → Option (List ByteArray × Int)
  | 0, _, _, _ => none
  | k + 1, x10, x16, x17 => if x17 < (x10.length : Int) then (if 0 ≤ x17 then ((spec_l01Joined.f k (rd_L9 x10 x17)).bind fun t537 => ((spec_l01Text.f k t537).bind fun t538 => (if t538 = true then (spec_LengthenAll.l5 k x10 x16 x17 t537 0) else (spec_LengthenAll.l4 k x10 x16 (wrap64 (x17 + 1)))))) else (none)) else (some (x16, 0))
def spec_LengthenAll.l5 : Nat → List (List ByteArray) → List ByteArray → Int → ByteArray → Int → Option (List ByteArray × Int)
  | 0, _, _, _, _, _ => none
  | k + 1, x10, x16, x17, x18, x19 => if x19 < (x16.length : Int) then (if 0 ≤ x19 then (if (Op.bytesLess ((rdOf ByteArray.empty x16 x19).toList) x18.toList) = true then (spec_LengthenAll.l5 k x10 x16 x17 x18 (wrap64 (x19 + 1))) else (if (rdOf ByteArray.empty x16 x19).toList = x18.toList then (spec_LengthenAll.l4 k x10 x16 (wrap64 (x17 + 1))) else ((some (([] : List ByteArray) : List ByteArray)).bind fun y541 => (if x19 ≤ (x16.length : Int) then ((some (x16.drop (x19 : Int).toNat : List ByteArray)).bind fun y544 => (if y541.length + y544.length < 8796093022208 then ((some (y541 ++ y544 : List ByteArray)).bind fun y549 => ((some (x16.take (x19 : Int).toNat : List ByteArray)).bind fun y552 => ((some (([x18] : List ByteArray) : List ByteArray)).bind fun y555 => (if y552.length + y555.length < 8796093022208 then ((some (y552 ++ y555 : List ByteArray)).bind fun y558 => (if y558.length + y549.length < 8796093022208 then (spec_LengthenAll.l4 k x10 (y558 ++ y549) (wrap64 (x17 + 1))) else (none))) else (none))))) else (none))) else (none))))) else (none)) else ((some (([] : List ByteArray) : List ByteArray)).bind fun y564 => (if 0 ≤ x19 then (if x19 ≤ (x16.length : Int) then ((some (x16.drop (x19 : Int).toNat : List ByteArray)).bind fun y567 => (if y564.length + y567.length < 8796093022208 then ((some (y564 ++ y567 : List ByteArray)).bind fun y572 => ((some (x16.take (x19 : Int).toNat : List ByteArray)).bind fun y575 => ((some (([x18] : List ByteArray) : List ByteArray)).bind fun y578 => (if y575.length + y578.length < 8796093022208 then ((some (y575 ++ y578 : List ByteArray)).bind fun y581 => (if y581.length + y572.length < 8796093022208 then (spec_LengthenAll.l4 k x10 (y581 ++ y572) (wrap64 (x17 + 1))) else (none))) else (none))))) else (none))) else (none)) else (none)))
end
def spec_LengthenAll.f (k : Nat) (a0 : ByteArray) (l1 : List (S51)) : Option (List ByteArray × Int) := (spec_l02Asked.f k a0 l1).bind fun t486 => (if t486 = 0 then ((spec_l01Words.f k a0).bind fun t490 => (spec_LengthenAll.l0 k l1 t490 1 0)) else (some ((([] : List ByteArray)), t486)))
theorem spec_LengthenAll.mono_l : ∀ k, (∀ y0 y1 y2 y3, LeO (spec_LengthenAll.l0 k y0 y1 y2 y3) (spec_LengthenAll.l0 (k + 1) y0 y1 y2 y3)) ∧ (∀ y0 y1 y2 y3, LeO (spec_LengthenAll.l1 k y0 y1 y2 y3) (spec_LengthenAll.l1 (k + 1) y0 y1 y2 y3)) ∧ (∀ y0 y1 y2 y3 y4 y5 y6, LeO (spec_LengthenAll.l2 k y0 y1 y2 y3 y4 y5 y6) (spec_LengthenAll.l2 (k + 1) y0 y1 y2 y3 y4 y5 y6)) ∧ (∀ y0 y1 y2 y3 y4 y5 y6 y7, LeO (spec_LengthenAll.l3 k y0 y1 y2 y3 y4 y5 y6 y7) (spec_LengthenAll.l3 (k + 1) y0 y1 y2 y3 y4 y5 y6 y7)) ∧ (∀ y0 y1 y2, LeO (spec_LengthenAll.l4 k y0 y1 y2) (spec_LengthenAll.l4 (k + 1) y0 y1 y2)) ∧ (∀ y0 y1 y2 y3 y4, LeO (spec_LengthenAll.l5 k y0 y1 y2 y3 y4) (spec_LengthenAll.l5 (k + 1) y0 y1 y2 y3 y4))
  | 0 => ⟨fun _ _ _ _ r h => by simp [spec_LengthenAll.l0] at h, fun _ _ _ _ r h => by simp [spec_LengthenAll.l1] at h, fun _ _ _ _ _ _ _ r h => by simp [spec_LengthenAll.l2] at h, fun _ _ _ _ _ _ _ _ r h => by simp [spec_LengthenAll.l3] at h, fun _ _ _ r h => by simp [spec_LengthenAll.l4] at h, fun _ _ _ _ _ r h => by simp [spec_LengthenAll.l5] at h⟩
  | k + 1 => by
    obtain ⟨ih0, ih1, ih2, ih3, ih4, ih5⟩ := spec_LengthenAll.mono_l k
    refine ⟨?_, ?_, ?_, ?_, ?_, ?_⟩
    · intro y0 y1 y2 y3
      unfold spec_LengthenAll.l0
      repeat' first
      | (with_reducible exact ih0 _ _ _ _)
      | (with_reducible exact ih1 _ _ _ _)
      | (with_reducible exact ih2 _ _ _ _ _ _ _)
      | (with_reducible exact ih3 _ _ _ _ _ _ _ _)
      | (with_reducible exact ih4 _ _ _)
      | (with_reducible exact ih5 _ _ _ _ _)
      | (with_reducible exact spec_l01Joined.mono _ _)
      | (with_reducible exact spec_l01Text.mono _ _)
      | (with_reducible exact spec_l01Words.mono _ _)
      | (with_reducible exact spec_l02Asked.mono _ _ _)
      | (with_reducible exact spec_l02Longs.mono _ _ _)
      | (with_reducible exact LeO.refl _)
      | (with_reducible exact LeO.none _)
      | (with_reducible refine LeO.ite ?_ ?_)
      | (with_reducible refine LeO.bind ?_ (fun _ => ?_))
      | exact ih0 _ _ _ _
      | exact ih1 _ _ _ _
      | exact ih2 _ _ _ _ _ _ _
      | exact ih3 _ _ _ _ _ _ _ _
      | exact ih4 _ _ _
      | exact ih5 _ _ _ _ _
      | exact spec_l01Joined.mono _ _
      | exact spec_l01Text.mono _ _
      | exact spec_l01Words.mono _ _
      | exact spec_l02Asked.mono _ _ _
      | exact spec_l02Longs.mono _ _ _
      | exact LeO.none _
      | refine LeO.ite ?_ ?_
      | refine LeO.bind ?_ (fun _ => ?_)
    · intro y0 y1 y2 y3
      unfold spec_LengthenAll.l1
      repeat' first
      | (with_reducible exact ih0 _ _ _ _)
      | (with_reducible exact ih1 _ _ _ _)
      | (with_reducible exact ih2 _ _ _ _ _ _ _)
      | (with_reducible exact ih3 _ _ _ _ _ _ _ _)
      | (with_reducible exact ih4 _ _ _)
      | (with_reducible exact ih5 _ _ _ _ _)
      | (with_reducible exact spec_l01Joined.mono _ _)
      | (with_reducible exact spec_l01Text.mono _ _)
      | (with_reducible exact spec_l01Words.mono _ _)
      | (with_reducible exact spec_l02Asked.mono _ _ _)
      | (with_reducible exact spec_l02Longs.mono _ _ _)
      | (with_reducible exact LeO.refl _)
      | (with_reducible exact LeO.none _)
      | (with_reducible refine LeO.ite ?_ ?_)
      | (with_reducible refine LeO.bind ?_ (fun _ => ?_))
      | exact ih0 _ _ _ _
      | exact ih1 _ _ _ _
      | exact ih2 _ _ _ _ _ _ _
      | exact ih3 _ _ _ _ _ _ _ _
      | exact ih4 _ _ _
      | exact ih5 _ _ _ _ _
      | exact spec_l01Joined.mono _ _
      | exact spec_l01Text.mono _ _
      | exact spec_l01Words.mono _ _
      | exact spec_l02Asked.mono _ _ _
      | exact spec_l02Longs.mono _ _ _
      | exact LeO.none _
      | refine LeO.ite ?_ ?_
      | refine LeO.bind ?_ (fun _ => ?_)
    · intro y0 y1 y2 y3 y4 y5 y6
      unfold spec_LengthenAll.l2
      repeat' first
      | (with_reducible exact ih0 _ _ _ _)
      | (with_reducible exact ih1 _ _ _ _)
      | (with_reducible exact ih2 _ _ _ _ _ _ _)
      | (with_reducible exact ih3 _ _ _ _ _ _ _ _)
      | (with_reducible exact ih4 _ _ _)
      | (with_reducible exact ih5 _ _ _ _ _)
      | (with_reducible exact spec_l01Joined.mono _ _)
      | (with_reducible exact spec_l01Text.mono _ _)
      | (with_reducible exact spec_l01Words.mono _ _)
      | (with_reducible exact spec_l02Asked.mono _ _ _)
      | (with_reducible exact spec_l02Longs.mono _ _ _)
      | (with_reducible exact LeO.refl _)
      | (with_reducible exact LeO.none _)
      | (with_reducible refine LeO.ite ?_ ?_)
      | (with_reducible refine LeO.bind ?_ (fun _ => ?_))
      | exact ih0 _ _ _ _
      | exact ih1 _ _ _ _
      | exact ih2 _ _ _ _ _ _ _
      | exact ih3 _ _ _ _ _ _ _ _
      | exact ih4 _ _ _
      | exact ih5 _ _ _ _ _
      | exact spec_l01Joined.mono _ _
      | exact spec_l01Text.mono _ _
      | exact spec_l01Words.mono _ _
      | exact spec_l02Asked.mono _ _ _
      | exact spec_l02Longs.mono _ _ _
      | exact LeO.none _
      | refine LeO.ite ?_ ?_
      | refine LeO.bind ?_ (fun _ => ?_)
    · intro y0 y1 y2 y3 y4 y5 y6 y7
      unfold spec_LengthenAll.l3
      repeat' first
      | (with_reducible exact ih0 _ _ _ _)
      | (with_reducible exact ih1 _ _ _ _)
      | (with_reducible exact ih2 _ _ _ _ _ _ _)
      | (with_reducible exact ih3 _ _ _ _ _ _ _ _)
      | (with_reducible exact ih4 _ _ _)
      | (with_reducible exact ih5 _ _ _ _ _)
      | (with_reducible exact spec_l01Joined.mono _ _)
      | (with_reducible exact spec_l01Text.mono _ _)
      | (with_reducible exact spec_l01Words.mono _ _)
      | (with_reducible exact spec_l02Asked.mono _ _ _)
      | (with_reducible exact spec_l02Longs.mono _ _ _)
      | (with_reducible exact LeO.refl _)
      | (with_reducible exact LeO.none _)
      | (with_reducible refine LeO.ite ?_ ?_)
      | (with_reducible refine LeO.bind ?_ (fun _ => ?_))
      | exact ih0 _ _ _ _
      | exact ih1 _ _ _ _
      | exact ih2 _ _ _ _ _ _ _
      | exact ih3 _ _ _ _ _ _ _ _
      | exact ih4 _ _ _
      | exact ih5 _ _ _ _ _
      | exact spec_l01Joined.mono _ _
      | exact spec_l01Text.mono _ _
      | exact spec_l01Words.mono _ _
      | exact spec_l02Asked.mono _ _ _
      | exact spec_l02Longs.mono _ _ _
      | exact LeO.none _
      | refine LeO.ite ?_ ?_
      | refine LeO.bind ?_ (fun _ => ?_)
    · intro y0 y1 y2
      unfold spec_LengthenAll.l4
      repeat' first
      | (with_reducible exact ih0 _ _ _ _)
      | (with_reducible exact ih1 _ _ _ _)
      | (with_reducible exact ih2 _ _ _ _ _ _ _)
      | (with_reducible exact ih3 _ _ _ _ _ _ _ _)
      | (with_reducible exact ih4 _ _ _)
      | (with_reducible exact ih5 _ _ _ _ _)
      | (with_reducible exact spec_l01Joined.mono _ _)
      | (with_reducible exact spec_l01Text.mono _ _)
      | (with_reducible exact spec_l01Words.mono _ _)
      | (with_reducible exact spec_l02Asked.mono _ _ _)
      | (with_reducible exact spec_l02Longs.mono _ _ _)
      | (with_reducible exact LeO.refl _)
      | (with_reducible exact LeO.none _)
      | (with_reducible refine LeO.ite ?_ ?_)
      | (with_reducible refine LeO.bind ?_ (fun _ => ?_))
      | exact ih0 _ _ _ _
      | exact ih1 _ _ _ _
      | exact ih2 _ _ _ _ _ _ _
      | exact ih3 _ _ _ _ _ _ _ _
      | exact ih4 _ _ _
      | exact ih5 _ _ _ _ _
      | exact spec_l01Joined.mono _ _
      | exact spec_l01Text.mono _ _
      | exact spec_l01Words.mono _ _
      | exact spec_l02Asked.mono _ _ _
      | exact spec_l02Longs.mono _ _ _
      | exact LeO.none _
      | refine LeO.ite ?_ ?_
      | refine LeO.bind ?_ (fun _ => ?_)
    · intro y0 y1 y2 y3 y4
      unfold spec_LengthenAll.l5
      repeat' first
      | (with_reducible exact ih0 _ _ _ _)
      | (with_reducible exact ih1 _ _ _ _)
      | (with_reducible exact ih2 _ _ _ _ _ _ _)
      | (with_reducible exact ih3 _ _ _ _ _ _ _ _)
      | (with_reducible exact ih4 _ _ _)
      | (with_reducible exact ih5 _ _ _ _ _)
      | (with_reducible exact spec_l01Joined.mono _ _)
      | (with_reducible exact spec_l01Text.mono _ _)
      | (with_reducible exact spec_l01Words.mono _ _)
      | (with_reducible exact spec_l02Asked.mono _ _ _)
      | (with_reducible exact spec_l02Longs.mono _ _ _)
      | (with_reducible exact LeO.refl _)
      | (with_reducible exact LeO.none _)
      | (with_reducible refine LeO.ite ?_ ?_)
      | (with_reducible refine LeO.bind ?_ (fun _ => ?_))
      | exact ih0 _ _ _ _
      | exact ih1 _ _ _ _
      | exact ih2 _ _ _ _ _ _ _
      | exact ih3 _ _ _ _ _ _ _ _
      | exact ih4 _ _ _
      | exact ih5 _ _ _ _ _
      | exact spec_l01Joined.mono _ _
      | exact spec_l01Text.mono _ _
      | exact spec_l01Words.mono _ _
      | exact spec_l02Asked.mono _ _ _
      | exact spec_l02Longs.mono _ _ _
      | exact LeO.none _
      | refine LeO.ite ?_ ?_
      | refine LeO.bind ?_ (fun _ => ?_)
theorem spec_LengthenAll.mono : ∀ a0 a1 k, LeO (spec_LengthenAll.f k a0 a1) (spec_LengthenAll.f (k + 1) a0 a1) := by
  intro a0 a1 k
  obtain ⟨ih0, ih1, ih2, ih3, ih4, ih5⟩ := spec_LengthenAll.mono_l k
  unfold spec_LengthenAll.f
  repeat' first
      | (with_reducible exact ih0 _ _ _ _)
      | (with_reducible exact ih1 _ _ _ _)
      | (with_reducible exact ih2 _ _ _ _ _ _ _)
      | (with_reducible exact ih3 _ _ _ _ _ _ _ _)
      | (with_reducible exact ih4 _ _ _)
      | (with_reducible exact ih5 _ _ _ _ _)
      | (with_reducible exact spec_l01Joined.mono _ _)
      | (with_reducible exact spec_l01Text.mono _ _)
      | (with_reducible exact spec_l01Words.mono _ _)
      | (with_reducible exact spec_l02Asked.mono _ _ _)
      | (with_reducible exact spec_l02Longs.mono _ _ _)
      | (with_reducible exact LeO.refl _)
      | (with_reducible exact LeO.none _)
      | (with_reducible refine LeO.ite ?_ ?_)
      | (with_reducible refine LeO.bind ?_ (fun _ => ?_))
      | exact ih0 _ _ _ _
      | exact ih1 _ _ _ _
      | exact ih2 _ _ _ _ _ _ _
      | exact ih3 _ _ _ _ _ _ _ _
      | exact ih4 _ _ _
      | exact ih5 _ _ _ _ _
      | exact spec_l01Joined.mono _ _
      | exact spec_l01Text.mono _ _
      | exact spec_l01Words.mono _ _
      | exact spec_l02Asked.mono _ _ _
      | exact spec_l02Longs.mono _ _ _
      | exact LeO.none _
      | refine LeO.ite ?_ ?_
      | refine LeO.bind ?_ (fun _ => ?_)
def spec_LengthenAll.T24 : Bool × List (List Nat × List Nat) := (true, [([], []), ([], []), ([], []), ([], []), ([2, 3], [2, 3]), ([4], [4]), ([1, 5], [1, 5]), ([], []), ([], []), ([7, 8], [7, 8]), ([9], [9]), ([10], [10]), ([6, 11, 6], [6, 11]), ([12], [12]), ([0, 13, 12], [0, 13]), ([14, 14, 0, 1, 2, 3, 4, 5, 6, 7, 8, 9, 10, 11, 12, 13, 14], [0, 14])])
def spec_LengthenAll.B24 : List Nat := [0, 0, 0, 0, 12, 28, 62, 0, 0, 384, 896, 1920, 4094, 8190, 16383, 32767]
theorem spec_LengthenAll.tab24 : rtab .any (opsOf Tryd.f22 24) = spec_LengthenAll.T24 := by kernel_rfl
theorem spec_LengthenAll.bits24 : waitsOk spec_LengthenAll.T24.2 spec_LengthenAll.B24 = true := by kernel_rfl
set_option maxHeartbeats 8000000 in
set_option maxRecDepth 100000 in
theorem spec_LengthenAll.calls (k : Nat) (a0 : ByteArray) (A1 : Option Addr) (c1 : Nat) (l1 : List (S51)) (r1 : List ByteArray) (r2 : Int) (w : World) (hr1 : Kd.C k51 w A1 l1.length l1) (hc1 : l1.length ≤ c1) (h : spec_LengthenAll.f k a0 l1 = some (r1, r2)) :
    Calls Tryd.prog 22 #[.string a0, .slice A1 l1.length c1] w fun e w' => ∃ v0_ : Value, e = .returned (.tuple #[v0_, .int .i64 r2]) ∧ Kd.R Kd.string 9 w' w.heap.size (fun _ => True) v0_ r1 ∧ Below w.heap.size w w' := by
  have HR1 := Aside0.mk hr1
  have HC1 := Aside0.mk hc1
  clear hr1 hc1
  have HB := Aside0.mk (Below.refl w.heap.size w)
  have H : ((spec_l02Asked.f k a0 l1).bind fun t486 => (if t486 = 0 then ((spec_l01Words.f k a0).bind fun t490 => (spec_LengthenAll.l0 k l1 t490 1 0)) else (some ((([] : List ByteArray)), t486)))) = some (r1, r2) := h
  clear h
  replace H := Option.bind_eq_some_iff.mp H
  obtain ⟨t486, A30, H⟩ := H
  replace H : (if t486 = 0 then ((spec_l01Words.f k a0).bind fun t490 => (spec_LengthenAll.l0 k l1 t490 1 0)) else (some ((([] : List ByteArray)), t486))) = some (r1, r2) := H
  have A3 := Aside0.mk A30
  clear A30
  by_cases c4 : t486 = 0
  · rw [if_pos c4] at H
    have c4b0 : (t486 == 0) = true := beq_iff_eq.mpr c4
    have c4b1 : (t486 != 0) = false := bne_eq_false_iff_eq.mpr c4
    clear c4
    replace H := Option.bind_eq_some_iff.mp H
    obtain ⟨t490, A50, H⟩ := H
    replace H : (spec_LengthenAll.l0 k l1 t490 1 0) = some (r1, r2) := H
    have A5 := Aside0.mk A50
    clear A50
    have H' := Aside0.mk H
    clear H
    go_enter Tryd.func22, Tryd.ntmps22
    go_wp2_with (first | ((with_reducible refine gate_callee (f := 43) rfl ?_); refine goesL_ (some 23) rfl rfl Tryd.func43 (by kernel_rfl) rfl #[.string a0, .slice A1 l1.length c1] rfl (by (try simp only [List.map_toArray, List.map_cons, List.map_nil]); first | done | rfl | (simp only [List.length_drop, List.length_take]; rfl)) ?_; (with_reducible refine (spec_l02Asked.calls k a0 _ _ l1 t486 _ ?side1 ?side2 A3.out).mono ?_); (case side1 => repeat (first | exact HR1.out | (with_reducible refine Kd.C_alloc ?_ _) | (with_reducible refine Kd.C_drewN ?_ _) | (with_reducible refine Kd.C_drew ?_))); (case side2 => exact HC1.out); rintro e w6 ⟨rfl, hb⟩; refine ⟨_, rfl, ?_⟩; have n0_ := Aside0.mk (below_step (by repeat (first | (with_reducible first | exact HB.out | apply below_alloc | apply pw_below_drewN | apply below_drew1) | exact HB.out)) hb); clear HB; have HB := n0_; clear n0_; (try clear hb); (try clear hb2); (try clear hk); (try clear hi)) | ((with_reducible refine gate_callee (f := 44) rfl ?_); refine goesL_ (some 29) rfl rfl Tryd.func44 (by kernel_rfl) rfl #[.string a0] rfl (by (try simp only [List.map_toArray, List.map_cons, List.map_nil]); first | done | rfl | (simp only [List.length_drop, List.length_take]; rfl)) ?_; (with_reducible refine (spec_l01Words.calls k a0 t490 _ A5.out).mono ?_); rintro e w7 ⟨v491, rfl, ho0, hb⟩; refine ⟨_, rfl, ?_⟩; have n0_ := Aside0.mk (Kd.R_lower ho0 (below_size (by repeat (first | (with_reducible first | exact HB.out | apply below_alloc | apply pw_below_drewN | apply below_drew1) | exact HB.out)))); have n1_ := Aside0.mk (below_step (by repeat (first | (with_reducible first | exact HB.out | apply below_alloc | apply pw_below_drewN | apply below_drew1) | exact HB.out)) hb); clear HB; have HO492 := n0_; have HB := n1_; clear n0_ n1_; (try clear hb); (try clear hb2); (try clear hk); (try clear hi); (try clear ho0)))
    go_loopg [8, 9] k (fun kq v8 v9 w' => ∃ (x8_1 : Int) (x9_1 : Int), v8 = .int .i64 x8_1 ∧ v9 = .int .i64 x9_1 ∧ Aside0 (spec_LengthenAll.l0 kq l1 t490 x8_1 x9_1 = some (r1, r2)) ∧ Aside0 (kq ≤ k) ∧ Aside0 (Kd.R Kd.string 9 w' w.heap.size (fun _ => True) v491 t490) ∧ Aside0 (Below w.heap.size w w'))
    case atStart => exact ⟨(1), (0), (by first | rfl | (simp; done) | (simp [*]; done)), (by first | rfl | (simp; done) | (simp [*]; done)), H', ⟨Nat.le_refl _⟩, ⟨by (with_reducible repeat (first | apply Kd.R_alloc | apply Kd.R_drewN | apply Kd.R_drew)); exact HO492.out⟩, ⟨by repeat (first | (with_reducible first | exact HB.out | apply below_alloc | apply pw_below_drewN | apply below_drew1) | exact HB.out)⟩⟩
    case round =>
      clear H'
      try clear c1
      try clear c2
      try clear p2
      try clear c4
      try clear c4b0
      try clear c4b1
      obtain ⟨x8_1, x9_1, rfl, rfl, HA, HK1, HO_7, HB⟩ := hrel
      cases gk with
      | zero => exact absurd HA.out (by simp [spec_LengthenAll.l0])
      | succ k1 =>
        have H := HA.out
        clear HA
        simp only [spec_LengthenAll.l0] at H
        by_cases c8 : x9_1 < (t490.length : Int)
        · rw [if_pos c8] at H
          have c8b0 : decide (x9_1 < (t490.length : Int)) = true := decide_eq_true c8
          clear c8
          by_cases c9 : 0 ≤ x9_1
          · rw [if_pos c9] at H
            have c9b0 : decide (0 ≤ x9_1) = true := decide_eq_true c9
            clear c9
            replace H := Option.bind_eq_some_iff.mp H
            obtain ⟨t494, A100, H⟩ := H
            replace H : (if (wrap64 (x8_1 * (t494.length : Int))) > 200 then (some ((([] : List ByteArray)), 3)) else (spec_LengthenAll.l0 k1 l1 t490 (wrap64 (x8_1 * (t494.length : Int))) (wrap64 (x9_1 + 1)))) = some (r1, r2) := H
            have A10 := Aside0.mk A100
            clear A100
            by_cases c11 : (wrap64 (x8_1 * (t494.length : Int))) > 200
            · rw [if_pos c11] at H
              have c11b0 : decide (200 < (wrap64 (x8_1 * (t494.length : Int)))) = true := decide_eq_true c11
              clear c11
              obtain ⟨y497, hy497⟩ : ∃ y_ : List ByteArray, y_ = (([] : List ByteArray)) := ⟨_, rfl⟩
              replace H : (some (y497, 3)) = some (r1, r2) := by first | (rw [hy497]; with_reducible exact H) | (have H2_ := (Option.bind_some _ _).symm.trans H; rw [hy497]; with_reducible exact H2_) | (have H2_ := (Option.bind_some _ _).symm.trans H; with_reducible exact H2_) | with_reducible exact H | (rw [hy497]; exact H) | exact H
              have Ny497 := Aside0.mk hy497
              clear hy497
              simp only [Option.some.injEq, Prod.mk.injEq] at H
              obtain ⟨rfl, rfl⟩ := H
              obtain ⟨Ao12, co12, eo12⟩ := Kd.R_slice HO_7.out
              subst eo12
              have p493 : 0 ≤ (x9_1 : Int) := of_decide_eq_true (by first | (with_reducible assumption) | assumption)
              have q493 : x9_1 < (t490.length : Int) := of_decide_eq_true (by first | (with_reducible assumption) | assumption)
              obtain ⟨ad493, e493, hx493_0⟩ := Kd.at_string (Kd.R_reads' HO_7.out).2.2 x9_1 p493 q493
              cases e493
              replace p493 := eq_true p493
              replace q493 := eq_true q493
              go_wp2_with (first | ((with_reducible refine gate_callee (f := 53) rfl ?_); refine goesL_ (some 42) rfl rfl Tryd.func53 (by kernel_rfl) rfl #[.slice A1 l1.length c1, .string (rdOf ByteArray.empty t490 x9_1)] rfl (by (try simp only [List.map_toArray, List.map_cons, List.map_nil]); first | done | rfl | (simp only [List.length_drop, List.length_take]; rfl)) ?_; (with_reducible refine (spec_l02Longs.calls k1 _ _ l1 (rdOf ByteArray.empty t490 x9_1) t494 _ ?side1 ?side2 A10.out).mono ?_); (case side1 => repeat (first | exact (Kd.C_below HR1.out HB.out) | (with_reducible refine Kd.C_alloc ?_ _) | (with_reducible refine Kd.C_drewN ?_ _) | (with_reducible refine Kd.C_drew ?_))); (case side2 => exact HC1.out); rintro e w13 ⟨v495, rfl, ho0, hb⟩; refine ⟨_, rfl, ?_⟩; have n0_ := Aside0.mk (Kd.R_elder' (by (with_reducible repeat (first | apply Kd.R_alloc | apply Kd.R_drewN | apply Kd.R_drew)); exact HO_7.out) (Kd.R_base ho0) hb); have n1_ := Aside0.mk (Kd.R_lower (Kd.R_new' ho0 (Kd.R_lt (by (with_reducible repeat (first | apply Kd.R_alloc | apply Kd.R_drewN | apply Kd.R_drew)); exact HO_7.out))) (below_size (by repeat (first | (with_reducible first | exact HB.out | apply below_alloc | apply pw_below_drewN | apply below_drew1) | exact HB.out)))); have n2_ := Aside0.mk (below_step (by repeat (first | (with_reducible first | exact HB.out | apply below_alloc | apply pw_below_drewN | apply below_drew1) | exact HB.out)) hb); clear HO_7; clear HB; have HO_7 := n0_; have HO496 := n1_; have HB := n2_; clear n0_ n1_ n2_; (try clear hb); (try clear hb2); (try clear hk); (try clear hi); (try clear ho0); obtain ⟨Ao14, co14, eo14⟩ := Kd.R_slice HO496.out; subst eo14) | ((with_reducible refine gate_dst (N := 47) rfl ?_); refine Kd.R_lit Kd.string _ 9 ?hg (N := 47) ?hd (xs := ([] : List ByteArray)) (inner := []) (ok := fun _ => True) (okp := fun _ => True) ?hr ?hp (fun _ hk => hk) trivial (Below.refl _ _) (Nat.le_refl _) (by simp) ?_; (case hd => rfl); (case hg => rfl); (case hr => first | (go_simp; done) | (go_simp; rfl)); (case hp => exact (Reps.none _ _)); intro v498 w15 ho16 hb hg_ hnew_; clear hg_ hnew_; (first | rw [← Ny497.out] at ho16 | (simp only [Int.reduceToNat] at ho16; rw [← Ny497.out] at ho16)); have n0_ := Aside0.mk (Kd.R_elder' (by (with_reducible repeat (first | apply Kd.R_alloc | apply Kd.R_drewN | apply Kd.R_drew)); exact HO_7.out) (Kd.R_base ho16) hb); have n1_ := Aside0.mk (Kd.R_elder' (by (with_reducible repeat (first | apply Kd.R_alloc | apply Kd.R_drewN | apply Kd.R_drew)); exact HO496.out) (Kd.R_base ho16) hb); have n2_ := Aside0.mk (Kd.R_lower (Kd.R_new' (Kd.R_new' ho16 (Kd.R_lt (by (with_reducible repeat (first | apply Kd.R_alloc | apply Kd.R_drewN | apply Kd.R_drew)); exact HO_7.out))) (Kd.R_lt (by (with_reducible repeat (first | apply Kd.R_alloc | apply Kd.R_drewN | apply Kd.R_drew)); exact HO496.out))) (below_size (by repeat (first | (with_reducible first | exact HB.out | apply below_alloc | apply pw_below_drewN | apply below_drew1) | exact HB.out)))); have n3_ := Aside0.mk (below_step (by repeat (first | (with_reducible first | exact HB.out | apply below_alloc | apply pw_below_drewN | apply below_drew1) | exact HB.out)) hb); clear HO_7; clear HO496; clear HB; have HO_7 := n0_; have HO496 := n1_; have HO499 := n2_; have HB := n3_; clear n0_ n1_ n2_ n3_; clear hb ho16))
              go_ret2
              exact ⟨_, by first | rfl | (simp [errW_none, errW_some] <;> rfl) | (simp [*, errW_none, errW_some] <;> rfl), by (with_reducible repeat (first | apply Kd.R_alloc | apply Kd.R_drewN | apply Kd.R_drew)); exact Kd.R_mono HO499.out (fun _ hk => trivial), by repeat (first | (with_reducible first | exact HB.out | apply below_alloc | apply pw_below_drewN | apply below_drew1) | exact HB.out)⟩
            · rw [if_neg c11] at H
              have c11b0 : decide (200 < (wrap64 (x8_1 * (t494.length : Int)))) = false := decide_eq_false c11
              clear c11
              have H' := Aside0.mk H
              clear H
              obtain ⟨Ao17, co17, eo17⟩ := Kd.R_slice HO_7.out
              subst eo17
              have p493 : 0 ≤ (x9_1 : Int) := of_decide_eq_true (by first | (with_reducible assumption) | assumption)
              have q493 : x9_1 < (t490.length : Int) := of_decide_eq_true (by first | (with_reducible assumption) | assumption)
              obtain ⟨ad493, e493, hx493_0⟩ := Kd.at_string (Kd.R_reads' HO_7.out).2.2 x9_1 p493 q493
              cases e493
              replace p493 := eq_true p493
              replace q493 := eq_true q493
              go_wp2_with (first | ((with_reducible refine gate_callee (f := 53) rfl ?_); refine goesL_ (some 42) rfl rfl Tryd.func53 (by kernel_rfl) rfl #[.slice A1 l1.length c1, .string (rdOf ByteArray.empty t490 x9_1)] rfl (by (try simp only [List.map_toArray, List.map_cons, List.map_nil]); first | done | rfl | (simp only [List.length_drop, List.length_take]; rfl)) ?_; (with_reducible refine (spec_l02Longs.calls k1 _ _ l1 (rdOf ByteArray.empty t490 x9_1) t494 _ ?side1 ?side2 A10.out).mono ?_); (case side1 => repeat (first | exact (Kd.C_below HR1.out HB.out) | (with_reducible refine Kd.C_alloc ?_ _) | (with_reducible refine Kd.C_drewN ?_ _) | (with_reducible refine Kd.C_drew ?_))); (case side2 => exact HC1.out); rintro e w18 ⟨v495, rfl, ho0, hb⟩; refine ⟨_, rfl, ?_⟩; have n0_ := Aside0.mk (Kd.R_elder' (by (with_reducible repeat (first | apply Kd.R_alloc | apply Kd.R_drewN | apply Kd.R_drew)); exact HO_7.out) (Kd.R_base ho0) hb); have n1_ := Aside0.mk (Kd.R_lower (Kd.R_new' ho0 (Kd.R_lt (by (with_reducible repeat (first | apply Kd.R_alloc | apply Kd.R_drewN | apply Kd.R_drew)); exact HO_7.out))) (below_size (by repeat (first | (with_reducible first | exact HB.out | apply below_alloc | apply pw_below_drewN | apply below_drew1) | exact HB.out)))); have n2_ := Aside0.mk (below_step (by repeat (first | (with_reducible first | exact HB.out | apply below_alloc | apply pw_below_drewN | apply below_drew1) | exact HB.out)) hb); clear HO_7; clear HB; have HO_7 := n0_; have HO496 := n1_; have HB := n2_; clear n0_ n1_ n2_; (try clear hb); (try clear hb2); (try clear hk); (try clear hi); (try clear ho0); obtain ⟨Ao19, co19, eo19⟩ := Kd.R_slice HO496.out; subst eo19))
              go_roundg k1
              case measure => have := HK1.out; omega
              case rel => exact ⟨(wrap64 (x8_1 * (t494.length : Int))), (wrap64 (x9_1 + 1)), (by first | rfl | (simp; done) | (simp [*]; done)), (by first | rfl | (simp; done) | (simp [*]; done)), H', ⟨by have := HK1.out; omega⟩, ⟨by (with_reducible repeat (first | apply Kd.R_alloc | apply Kd.R_drewN | apply Kd.R_drew)); exact Kd.R_mono HO_7.out (fun _ hk => trivial)⟩, ⟨by repeat (first | (with_reducible first | exact HB.out | apply below_alloc | apply pw_below_drewN | apply below_drew1) | exact HB.out)⟩⟩
          · rw [if_neg c9] at H
            exact absurd H (by simp)
        · rw [if_neg c8] at H
          have c8b0 : decide (x9_1 < (t490.length : Int)) = false := decide_eq_false c8
          clear c8
          obtain ⟨y500, hy500⟩ : ∃ y_ : List ByteArray, y_ = (([] : List ByteArray)) := ⟨_, rfl⟩
          replace H : (spec_LengthenAll.l1 k1 l1 t490 (([y500] : List (List ByteArray))) 0) = some (r1, r2) := by first | (rw [hy500]; with_reducible exact H) | (have H2_ := (Option.bind_some _ _).symm.trans H; rw [hy500]; with_reducible exact H2_) | (have H2_ := (Option.bind_some _ _).symm.trans H; with_reducible exact H2_) | with_reducible exact H | (rw [hy500]; exact H) | exact H
          have Ny500 := Aside0.mk hy500
          clear hy500
          obtain ⟨y503, hy503⟩ : ∃ y_ : List (List ByteArray), y_ = (([y500] : List (List ByteArray))) := ⟨_, rfl⟩
          replace H : (spec_LengthenAll.l1 k1 l1 t490 y503 0) = some (r1, r2) := by first | (rw [hy503]; with_reducible exact H) | (have H2_ := (Option.bind_some _ _).symm.trans H; rw [hy503]; with_reducible exact H2_) | (have H2_ := (Option.bind_some _ _).symm.trans H; with_reducible exact H2_) | with_reducible exact H | (rw [hy503]; exact H) | exact H
          have Ny503 := Aside0.mk hy503
          clear hy503
          have H' := Aside0.mk H
          clear H
          obtain ⟨Ao20, co20, eo20⟩ := Kd.R_slice HO_7.out
          subst eo20
          go_wp2_with (first | ((with_reducible refine gate_dst (N := 48) rfl ?_); refine Kd.R_lit Kd.string _ 9 ?hg (N := 48) ?hd (xs := ([] : List ByteArray)) (inner := []) (ok := fun _ => True) (okp := fun _ => True) ?hr ?hp (fun _ hk => hk) trivial (Below.refl _ _) (Nat.le_refl _) (by simp) ?_; (case hd => rfl); (case hg => rfl); (case hr => first | (go_simp; done) | (go_simp; rfl)); (case hp => exact (Reps.none _ _)); intro v501 w21 ho22 hb hg_ hnew_; clear hg_ hnew_; (first | rw [← Ny500.out] at ho22 | (simp only [Int.reduceToNat] at ho22; rw [← Ny500.out] at ho22)); have n0_ := Aside0.mk (Kd.R_elder' (by (with_reducible repeat (first | apply Kd.R_alloc | apply Kd.R_drewN | apply Kd.R_drew)); exact HO_7.out) (Kd.R_base ho22) hb); have n1_ := Aside0.mk (Kd.R_lower (Kd.R_new' ho22 (Kd.R_lt (by (with_reducible repeat (first | apply Kd.R_alloc | apply Kd.R_drewN | apply Kd.R_drew)); exact HO_7.out))) (below_size (by repeat (first | (with_reducible first | exact HB.out | apply below_alloc | apply pw_below_drewN | apply below_drew1) | exact HB.out)))); have n2_ := Aside0.mk (below_step (by repeat (first | (with_reducible first | exact HB.out | apply below_alloc | apply pw_below_drewN | apply below_drew1) | exact HB.out)) hb); clear HO_7; clear HB; have HO_7 := n0_; have HO502 := n1_; have HB := n2_; clear n0_ n1_ n2_; clear hb ho22; obtain ⟨Ao23, co23, eo23⟩ := Kd.R_slice HO502.out; subst eo23) | ((with_reducible refine gate_dst (N := 49) rfl ?_); refine Kd.N_lit (Kd.slice 9 Kd.string) _ 37 ?hg (N' := 49) ?hd (xs := ([y500] : List (List ByteArray))) (inner := [.slice Ao23 y500.length co23]) (ok := (fun k_ => some k_ ≠ (.slice Ao20 t490.length co20 : Value).ownBlock)) (okp := (fun k_ => some k_ ≠ (.slice Ao20 t490.length co20 : Value).ownBlock)) ?hr ?hp (fun _ hk => hk) ((show ∀ k_, w21.heap.size ≤ k_ → (fun k_ => some k_ ≠ (.slice Ao20 t490.length co20 : Value).ownBlock) k_ from fun k_ hk => Kd.fresh' (Kd.R_lt (by (with_reducible repeat (first | apply Kd.R_alloc | apply Kd.R_drewN | apply Kd.R_drew)); exact HO_7.out)) k_ hk) _ (Nat.le_refl _)) (Below.refl _ _) (Nat.le_refl _) (by simp) ?_; (case hd => rfl); (case hg => rfl); (case hr => first | (go_simp; done) | (go_simp; rfl)); (case hp => exact (Reps.one (show Kd.FK (Kd.slice 9 Kd.string) _ _ y500 [.slice Ao23 y500.length co23] from (Kd.FK_slice_mk (Kd.R_reads' (Kd.R_mono (ok' := (fun k_ => some k_ ≠ (.slice Ao20 t490.length co20 : Value).ownBlock)) (HO502.out) (fun k_ hk => hk.2))).2.1 (Kd.R_F (Kd.R_mono (ok' := (fun k_ => some k_ ≠ (.slice Ao20 t490.length co20 : Value).ownBlock)) (HO502.out) (fun k_ hk => hk.2))))) (Reps.none _ _))); intro v504 w24 ho25 hb hg_ hnew_; clear hg_ hnew_; (first | rw [← Ny503.out] at ho25 | (simp only [Int.reduceToNat] at ho25; rw [← Ny503.out] at ho25)); have n0_ := Aside0.mk (Kd.R_below (by (with_reducible repeat (first | apply Kd.R_alloc | apply Kd.R_drewN | apply Kd.R_drew)); exact HO_7.out) hb); have n1_ := Aside0.mk (Kd.N_lower ho25 (below_size (by repeat (first | (with_reducible first | exact HB.out | apply below_alloc | apply pw_below_drewN | apply below_drew1) | exact HB.out)))); have n2_ := Aside0.mk (below_step (by repeat (first | (with_reducible first | exact HB.out | apply below_alloc | apply pw_below_drewN | apply below_drew1) | exact HB.out)) hb); clear HO_7; clear HB; clear HO502; have HO_7 := n0_; have HO505 := n1_; have HB := n2_; clear n0_ n1_ n2_; clear hb ho25))
          go_loopg [10, 11] k1 (fun kq v10 v11 w' => ∃ (x10_2 : List (List ByteArray)) (x11_2 : Int), v11 = .int .i64 x11_2 ∧ Aside0 (spec_LengthenAll.l1 kq l1 t490 x10_2 x11_2 = some (r1, r2)) ∧ Aside0 (kq ≤ k1) ∧ Aside0 (Kd.R Kd.string 9 w' w.heap.size (fun _ => True) (.slice Ao20 t490.length co20) t490) ∧ Aside0 (Kd.N (Kd.slice 9 Kd.string) 37 w' w.heap.size (fun k_ => some k_ ≠ ((.slice Ao20 t490.length co20) : Value).ownBlock) v10 x10_2) ∧ Aside0 (Below w.heap.size w w'))
          case atStart => exact ⟨(y503), (0), (by first | rfl | (simp; done) | (simp [*]; done)), H', ⟨Nat.le_refl _⟩, ⟨by (with_reducible repeat (first | apply Kd.R_alloc | apply Kd.R_drewN | apply Kd.R_drew)); exact Kd.R_mono HO_7.out (fun _ hk => trivial)⟩, ⟨by (with_reducible repeat (first | apply Kd.N_alloc | apply Kd.N_drewN | apply Kd.N_drew)); exact HO505.out⟩, ⟨by repeat (first | (with_reducible first | exact HB.out | apply below_alloc | apply pw_below_drewN | apply below_drew1) | exact HB.out)⟩⟩
          case round =>
            clear H'
            try clear c1
            try clear c2
            try clear p2
            try clear c4
            try clear c4b0
            try clear c4b1
            try clear p4
            try clear q4
            try clear hx4
            try clear c5
            try clear p6
            try clear c8
            try clear c8b0
            try clear c9
            try clear c9b0
            try clear c11
            try clear c11b0
            try clear c22
            try clear hx493_0
            try clear p2
            try clear p493
            try clear q493
            obtain ⟨x10_2, x11_2, rfl, HA, HK2, HO_7, HO_10, HB⟩ := hrel
            cases gk with
            | zero => exact absurd HA.out (by simp [spec_LengthenAll.l1])
            | succ k2 =>
              have H := HA.out
              clear HA
              simp only [spec_LengthenAll.l1] at H
              by_cases c26 : x11_2 < (t490.length : Int)
              · rw [if_pos c26] at H
                have c26b0 : decide (x11_2 < (t490.length : Int)) = true := decide_eq_true c26
                clear c26
                by_cases c27 : 0 ≤ x11_2
                · rw [if_pos c27] at H
                  have c27b0 : decide (0 ≤ x11_2) = true := decide_eq_true c27
                  clear c27
                  replace H := Option.bind_eq_some_iff.mp H
                  obtain ⟨t507, A280, H⟩ := H
                  replace H : (spec_LengthenAll.l2 k2 l1 t490 x10_2 x11_2 t507 (([] : List (List ByteArray))) 0) = some (r1, r2) := H
                  have A28 := Aside0.mk A280
                  clear A280
                  obtain ⟨y510, hy510⟩ : ∃ y_ : List (List ByteArray), y_ = (([] : List (List ByteArray))) := ⟨_, rfl⟩
                  replace H : (spec_LengthenAll.l2 k2 l1 t490 x10_2 x11_2 t507 y510 0) = some (r1, r2) := by first | (rw [hy510]; with_reducible exact H) | (have H2_ := (Option.bind_some _ _).symm.trans H; rw [hy510]; with_reducible exact H2_) | (have H2_ := (Option.bind_some _ _).symm.trans H; with_reducible exact H2_) | with_reducible exact H | (rw [hy510]; exact H) | exact H
                  have Ny510 := Aside0.mk hy510
                  clear hy510
                  have H' := Aside0.mk H
                  clear H
                  have p506 : 0 ≤ (x11_2 : Int) := of_decide_eq_true (by first | (with_reducible assumption) | assumption)
                  have q506 : x11_2 < (t490.length : Int) := of_decide_eq_true (by first | (with_reducible assumption) | assumption)
                  obtain ⟨ad506, e506, hx506_0⟩ := Kd.at_string (Kd.R_reads' HO_7.out).2.2 x11_2 p506 q506
                  cases e506
                  replace p506 := eq_true p506
                  replace q506 := eq_true q506
                  go_wp2_with (first | ((with_reducible refine gate_callee (f := 53) rfl ?_); refine goesL_ (some 61) rfl rfl Tryd.func53 (by kernel_rfl) rfl #[.slice A1 l1.length c1, .string (rdOf ByteArray.empty t490 x11_2)] rfl (by (try simp only [List.map_toArray, List.map_cons, List.map_nil]); first | done | rfl | (simp only [List.length_drop, List.length_take]; rfl)) ?_; (with_reducible refine (spec_l02Longs.calls k2 _ _ l1 (rdOf ByteArray.empty t490 x11_2) t507 _ ?side1 ?side2 A28.out).mono ?_); (case side1 => repeat (first | exact (Kd.C_below HR1.out HB.out) | (with_reducible refine Kd.C_alloc ?_ _) | (with_reducible refine Kd.C_drewN ?_ _) | (with_reducible refine Kd.C_drew ?_))); (case side2 => exact HC1.out); rintro e w29 ⟨v508, rfl, ho0, hb⟩; refine ⟨_, rfl, ?_⟩; have n0_ := Aside0.mk (Kd.R_elder' (by (with_reducible repeat (first | apply Kd.R_alloc | apply Kd.R_drewN | apply Kd.R_drew)); exact HO_7.out) (Kd.R_base ho0) hb); have n1_ := Aside0.mk (Kd.N_elder' (by (with_reducible repeat (first | apply Kd.N_alloc | apply Kd.N_drewN | apply Kd.N_drew)); exact HO_10.out) (Kd.R_base ho0) hb); have n2_ := Aside0.mk (Kd.R_lower (Kd.R_new' ho0 (Kd.R_lt (by (with_reducible repeat (first | apply Kd.R_alloc | apply Kd.R_drewN | apply Kd.R_drew)); exact HO_7.out))) (below_size (by repeat (first | (with_reducible first | exact HB.out | apply below_alloc | apply pw_below_drewN | apply below_drew1) | exact HB.out)))); have n3_ := Aside0.mk (below_step (by repeat (first | (with_reducible first | exact HB.out | apply below_alloc | apply pw_below_drewN | apply below_drew1) | exact HB.out)) hb); clear HO_7; clear HO_10; clear HB; have HO_7 := n0_; have HO_10 := n1_; have HO509 := n2_; have HB := n3_; clear n0_ n1_ n2_ n3_; (try clear hb); (try clear hb2); (try clear hk); (try clear hi); (try clear ho0)) | ((with_reducible refine gate_dst (N := 62) rfl ?_); refine Kd.N_lit (Kd.slice 9 Kd.string) _ 37 ?hg (N' := 62) ?hd (xs := ([] : List (List ByteArray))) (inner := []) (ok := (fun k_ => some k_ ≠ (.slice (some ad506) t490.length co20 : Value).ownBlock ∧ some k_ ≠ (u10 : Value).ownBlock ∧ some k_ ≠ (v508 : Value).ownBlock)) (okp := (fun k_ => some k_ ≠ (.slice (some ad506) t490.length co20 : Value).ownBlock ∧ some k_ ≠ (u10 : Value).ownBlock ∧ some k_ ≠ (v508 : Value).ownBlock)) ?hr ?hp (fun _ hk => hk) ((show ∀ k_, w29.heap.size ≤ k_ → (fun k_ => some k_ ≠ (.slice (some ad506) t490.length co20 : Value).ownBlock ∧ some k_ ≠ (u10 : Value).ownBlock ∧ some k_ ≠ (v508 : Value).ownBlock) k_ from fun k_ hk => ⟨Kd.fresh' (Kd.R_lt (by (with_reducible repeat (first | apply Kd.R_alloc | apply Kd.R_drewN | apply Kd.R_drew)); exact HO_7.out)) k_ hk, Kd.fresh' (Kd.N_lt (by (with_reducible repeat (first | apply Kd.N_alloc | apply Kd.N_drewN | apply Kd.N_drew)); exact HO_10.out)) k_ hk, Kd.fresh' (Kd.R_lt (by (with_reducible repeat (first | apply Kd.R_alloc | apply Kd.R_drewN | apply Kd.R_drew)); exact HO509.out)) k_ hk⟩) _ (Nat.le_refl _)) (Below.refl _ _) (Nat.le_refl _) (by simp) ?_; (case hd => rfl); (case hg => rfl); (case hr => first | (go_simp; done) | (go_simp; rfl)); (case hp => exact (Reps.none _ _)); intro v511 w30 ho31 hb hg_ hnew_; clear hg_ hnew_; (first | rw [← Ny510.out] at ho31 | (simp only [Int.reduceToNat] at ho31; rw [← Ny510.out] at ho31)); have n0_ := Aside0.mk (Kd.R_below (by (with_reducible repeat (first | apply Kd.R_alloc | apply Kd.R_drewN | apply Kd.R_drew)); exact HO_7.out) hb); have n1_ := Aside0.mk (Kd.N_elder' (by (with_reducible repeat (first | apply Kd.N_alloc | apply Kd.N_drewN | apply Kd.N_drew)); exact HO_10.out) (Kd.N_base ho31) hb); have n2_ := Aside0.mk (Kd.R_below (by (with_reducible repeat (first | apply Kd.R_alloc | apply Kd.R_drewN | apply Kd.R_drew)); exact HO509.out) hb); have n3_ := Aside0.mk (Kd.N_lower ho31 (below_size (by repeat (first | (with_reducible first | exact HB.out | apply below_alloc | apply pw_below_drewN | apply below_drew1) | exact HB.out)))); have n4_ := Aside0.mk (below_step (by repeat (first | (with_reducible first | exact HB.out | apply below_alloc | apply pw_below_drewN | apply below_drew1) | exact HB.out)) hb); clear HO_7; clear HO_10; clear HO509; clear HB; have HO_7 := n0_; have HO_10 := n1_; have HO509 := n2_; have HO512 := n3_; have HB := n4_; clear n0_ n1_ n2_ n3_ n4_; clear hb ho31))
                  go_loopg [13, 14] k2 (fun kq v13 v14 w' => ∃ (x13_3 : List (List ByteArray)) (x14_3 : Int), v14 = .int .i64 x14_3 ∧ Aside0 (spec_LengthenAll.l2 kq l1 t490 x10_2 x11_2 t507 x13_3 x14_3 = some (r1, r2)) ∧ Aside0 (kq ≤ k2) ∧ Aside0 (Kd.R Kd.string 9 w' w.heap.size (fun k_ => some k_ ≠ (v508 : Value).ownBlock) (.slice (some ad506) t490.length co20) t490) ∧ Aside0 (Kd.N (Kd.slice 9 Kd.string) 37 w' w.heap.size (fun k_ => some k_ ≠ ((.slice (some ad506) t490.length co20) : Value).ownBlock ∧ some k_ ≠ (v508 : Value).ownBlock ∧ some k_ ≠ (v13 : Value).ownBlock) u10 x10_2) ∧ Aside0 (Kd.R Kd.string 9 w' w.heap.size (fun k_ => some k_ ≠ ((.slice (some ad506) t490.length co20) : Value).ownBlock) v508 t507) ∧ Aside0 (Kd.N (Kd.slice 9 Kd.string) 37 w' w.heap.size (fun k_ => some k_ ≠ ((.slice (some ad506) t490.length co20) : Value).ownBlock ∧ some k_ ≠ (u10 : Value).ownBlock ∧ some k_ ≠ (v508 : Value).ownBlock) v13 x13_3) ∧ Aside0 (Below w.heap.size w w'))
                  case atStart => exact ⟨(y510), (0), (by first | rfl | (simp; done) | (simp [*]; done)), H', ⟨Nat.le_refl _⟩, ⟨by (with_reducible repeat (first | apply Kd.R_alloc | apply Kd.R_drewN | apply Kd.R_drew)); exact Kd.R_mono HO_7.out (fun _ hk => hk.2)⟩, ⟨by (with_reducible repeat (first | apply Kd.N_alloc | apply Kd.N_drewN | apply Kd.N_drew)); exact Kd.N_mono HO_10.out (fun _ hk => ⟨hk.1.1, ⟨hk.1.2, hk.2⟩⟩)⟩, ⟨by (with_reducible repeat (first | apply Kd.R_alloc | apply Kd.R_drewN | apply Kd.R_drew)); exact Kd.R_mono HO509.out (fun _ hk => hk.2)⟩, ⟨by (with_reducible repeat (first | apply Kd.N_alloc | apply Kd.N_drewN | apply Kd.N_drew)); exact HO512.out⟩, ⟨by repeat (first | (with_reducible first | exact HB.out | apply below_alloc | apply pw_below_drewN | apply below_drew1) | exact HB.out)⟩⟩
                  case round =>
                    clear H'
                    try clear c1
                    try clear c2
                    try clear p2
                    try clear c4
                    try clear c4b0
                    try clear c4b1
                    try clear p4
                    try clear q4
                    try clear hx4
                    try clear c5
                    try clear p5
                    try clear q5
                    try clear hx5
                    try clear p6
                    try clear c8
                    try clear c8b0
                    try clear c9
                    try clear c9b0
                    try clear c11
                    try clear c11b0
                    try clear c22
                    try clear c26
                    try clear c26b0
                    try clear c27
                    try clear c27b0
                    try clear hx493_0
                    try clear hx506_0
                    try clear p2
                    try clear p4
                    try clear p493
                    try clear p506
                    try clear p6
                    try clear q4
                    try clear q493
                    try clear q506
                    obtain ⟨x13_3, x14_3, rfl, HA, HK3, HO_7, HO_10, HO_12, HO_13, HB⟩ := hrel
                    cases gk with
                    | zero => exact absurd HA.out (by simp [spec_LengthenAll.l2])
                    | succ k3 =>
                      have H := HA.out
                      clear HA
                      simp only [spec_LengthenAll.l2] at H
                      by_cases c32 : x14_3 < (x10_2.length : Int)
                      · rw [if_pos c32] at H
                        have c32b0 : decide (x14_3 < (x10_2.length : Int)) = true := decide_eq_true c32
                        clear c32
                        have H' := Aside0.mk H
                        clear H
                        obtain ⟨Ao33, co33, eo33⟩ := Kd.N_slice HO_10.out
                        subst eo33
                        go_wp2
                        go_loopg [13, 15] k3 (fun kq v13 v15 w' => ∃ (x13_4 : List (List ByteArray)) (x15_4 : Int), v15 = .int .i64 x15_4 ∧ Aside0 (spec_LengthenAll.l3 kq l1 t490 x10_2 x11_2 t507 x13_4 x14_3 x15_4 = some (r1, r2)) ∧ Aside0 (kq ≤ k3) ∧ Aside0 (Kd.R Kd.string 9 w' w.heap.size (fun k_ => some k_ ≠ (v508 : Value).ownBlock) (.slice (some ad506) t490.length co20) t490) ∧ Aside0 (Kd.N (Kd.slice 9 Kd.string) 37 w' w.heap.size (fun k_ => some k_ ≠ ((.slice (some ad506) t490.length co20) : Value).ownBlock ∧ some k_ ≠ (v508 : Value).ownBlock ∧ some k_ ≠ (v13 : Value).ownBlock) (.slice Ao33 x10_2.length co33) x10_2) ∧ Aside0 (Kd.R Kd.string 9 w' w.heap.size (fun k_ => some k_ ≠ ((.slice (some ad506) t490.length co20) : Value).ownBlock) v508 t507) ∧ Aside0 (Kd.N (Kd.slice 9 Kd.string) 37 w' w.heap.size (fun k_ => some k_ ≠ ((.slice (some ad506) t490.length co20) : Value).ownBlock ∧ some k_ ≠ ((.slice Ao33 x10_2.length co33) : Value).ownBlock ∧ some k_ ≠ (v508 : Value).ownBlock) v13 x13_4) ∧ Aside0 (Below w.heap.size w w'))
                        case atStart => exact ⟨(x13_3), (0), (by first | rfl | (simp; done) | (simp [*]; done)), H', ⟨Nat.le_refl _⟩, ⟨by (with_reducible repeat (first | apply Kd.R_alloc | apply Kd.R_drewN | apply Kd.R_drew)); exact HO_7.out⟩, ⟨by (with_reducible repeat (first | apply Kd.N_alloc | apply Kd.N_drewN | apply Kd.N_drew)); exact HO_10.out⟩, ⟨by (with_reducible repeat (first | apply Kd.R_alloc | apply Kd.R_drewN | apply Kd.R_drew)); exact HO_12.out⟩, ⟨by (with_reducible repeat (first | apply Kd.N_alloc | apply Kd.N_drewN | apply Kd.N_drew)); exact HO_13.out⟩, ⟨by repeat (first | (with_reducible first | exact HB.out | apply below_alloc | apply pw_below_drewN | apply below_drew1) | exact HB.out)⟩⟩
                        case round =>
                          clear H'
                          try clear c1
                          try clear c2
                          try clear p2
                          try clear c3
                          try clear c4
                          try clear c4b0
                          try clear c4b1
                          try clear p4
                          try clear q4
                          try clear hx4
                          try clear c5
                          try clear p5
                          try clear q5
                          try clear hx5
                          try clear p6
                          try clear c8
                          try clear c8b0
                          try clear c9
                          try clear c9b0
                          try clear c11
                          try clear c11b0
                          try clear c22
                          try clear c26
                          try clear c26b0
                          try clear c27
                          try clear c27b0
                          try clear c32
                          try clear c32b0
                          try clear hx493_0
                          try clear hx506_0
                          try clear p2
                          try clear p4
                          try clear p493
                          try clear p5
                          try clear p506
                          try clear p6
                          try clear q4
                          try clear q493
                          try clear q5
                          try clear q506
                          obtain ⟨x13_4, x15_4, rfl, HA, HK4, HO_7, HO_10, HO_12, HO_13, HB⟩ := hrel
                          cases gk with
                          | zero => exact absurd HA.out (by simp [spec_LengthenAll.l3])
                          | succ k4 =>
                            have H := HA.out
                            clear HA
                            simp only [spec_LengthenAll.l3] at H
                            by_cases c34 : x15_4 < (t507.length : Int)
                            · rw [if_pos c34] at H
                              have c34b0 : decide (x15_4 < (t507.length : Int)) = true := decide_eq_true c34
                              clear c34
                              by_cases c35 : 0 ≤ x14_3
                              · rw [if_pos c35] at H
                                have c35b0 : decide (0 ≤ x14_3) = true := decide_eq_true c35
                                clear c35
                                by_cases c36 : x14_3 < (x10_2.length : Int)
                                · rw [if_pos c36] at H
                                  have c36b0 : decide (x14_3 < (x10_2.length : Int)) = true := decide_eq_true c36
                                  clear c36
                                  by_cases c37 : 0 ≤ x15_4
                                  · rw [if_pos c37] at H
                                    have c37b0 : decide (0 ≤ x15_4) = true := decide_eq_true c37
                                    clear c37
                                    obtain ⟨y515, hy515⟩ : ∃ y_ : List ByteArray, y_ = (([] : List ByteArray)) := ⟨_, rfl⟩
                                    replace H : (if y515.length + (rd_L9 x10_2 x14_3).length < 8796093022208 then ((some (y515 ++ (rd_L9 x10_2 x14_3) : List ByteArray)).bind fun y518 => ((some (([rdOf ByteArray.empty t507 x15_4] : List ByteArray) : List ByteArray)).bind fun y521 => (if y518.length + y521.length < 8796093022208 then ((some (([(y518 ++ y521)] : List (List ByteArray)) : List (List ByteArray))).bind fun y527 => (if x13_4.length + y527.length < 5864062014805 then (spec_LengthenAll.l3 k4 l1 t490 x10_2 x11_2 t507 (x13_4 ++ y527) x14_3 (wrap64 (x15_4 + 1))) else (none))) else (none)))) else (none)) = some (r1, r2) := by first | (rw [hy515]; with_reducible exact H) | (have H2_ := (Option.bind_some _ _).symm.trans H; rw [hy515]; with_reducible exact H2_) | (have H2_ := (Option.bind_some _ _).symm.trans H; with_reducible exact H2_) | with_reducible exact H | (rw [hy515]; exact H) | exact H
                                    have Ny515 := Aside0.mk hy515
                                    clear hy515
                                    by_cases c38 : y515.length + (rd_L9 x10_2 x14_3).length < 8796093022208
                                    · rw [if_pos c38] at H
                                      have LMc38 := Aside0.mk c38
                                      clear c38
                                      obtain ⟨y518, hy518⟩ : ∃ y_ : List ByteArray, y_ = (y515 ++ (rd_L9 x10_2 x14_3)) := ⟨_, rfl⟩
                                      replace H : ((some (([rdOf ByteArray.empty t507 x15_4] : List ByteArray) : List ByteArray)).bind fun y521 => (if y518.length + y521.length < 8796093022208 then ((some (([(y518 ++ y521)] : List (List ByteArray)) : List (List ByteArray))).bind fun y527 => (if x13_4.length + y527.length < 5864062014805 then (spec_LengthenAll.l3 k4 l1 t490 x10_2 x11_2 t507 (x13_4 ++ y527) x14_3 (wrap64 (x15_4 + 1))) else (none))) else (none))) = some (r1, r2) := by first | (rw [hy518]; with_reducible exact H) | (have H2_ := (Option.bind_some _ _).symm.trans H; rw [hy518]; with_reducible exact H2_) | (have H2_ := (Option.bind_some _ _).symm.trans H; with_reducible exact H2_) | with_reducible exact H | (rw [hy518]; exact H) | exact H
                                      have Ny518 := Aside0.mk hy518
                                      clear hy518
                                      obtain ⟨y521, hy521⟩ : ∃ y_ : List ByteArray, y_ = (([rdOf ByteArray.empty t507 x15_4] : List ByteArray)) := ⟨_, rfl⟩
                                      replace H : (if y518.length + y521.length < 8796093022208 then ((some (([(y518 ++ y521)] : List (List ByteArray)) : List (List ByteArray))).bind fun y527 => (if x13_4.length + y527.length < 5864062014805 then (spec_LengthenAll.l3 k4 l1 t490 x10_2 x11_2 t507 (x13_4 ++ y527) x14_3 (wrap64 (x15_4 + 1))) else (none))) else (none)) = some (r1, r2) := by first | (rw [hy521]; with_reducible exact H) | (have H2_ := (Option.bind_some _ _).symm.trans H; rw [hy521]; with_reducible exact H2_) | (have H2_ := (Option.bind_some _ _).symm.trans H; with_reducible exact H2_) | with_reducible exact H | (rw [hy521]; exact H) | exact H
                                      have Ny521 := Aside0.mk hy521
                                      clear hy521
                                      by_cases c39 : y518.length + y521.length < 8796093022208
                                      · rw [if_pos c39] at H
                                        have LMc39 := Aside0.mk c39
                                        clear c39
                                        obtain ⟨y524, hy524⟩ : ∃ y_ : List ByteArray, y_ = (y518 ++ y521) := ⟨_, rfl⟩
                                        replace H : ((some (([y524] : List (List ByteArray)) : List (List ByteArray))).bind fun y527 => (if x13_4.length + y527.length < 5864062014805 then (spec_LengthenAll.l3 k4 l1 t490 x10_2 x11_2 t507 (x13_4 ++ y527) x14_3 (wrap64 (x15_4 + 1))) else (none))) = some (r1, r2) := by first | (rw [hy524]; with_reducible exact H) | (have H2_ := (Option.bind_some _ _).symm.trans H; rw [hy524]; with_reducible exact H2_) | (have H2_ := (Option.bind_some _ _).symm.trans H; with_reducible exact H2_) | with_reducible exact H | (rw [hy524]; exact H) | exact H
                                        have Ny524 := Aside0.mk hy524
                                        clear hy524
                                        obtain ⟨y527, hy527⟩ : ∃ y_ : List (List ByteArray), y_ = (([y524] : List (List ByteArray))) := ⟨_, rfl⟩
                                        replace H : (if x13_4.length + y527.length < 5864062014805 then (spec_LengthenAll.l3 k4 l1 t490 x10_2 x11_2 t507 (x13_4 ++ y527) x14_3 (wrap64 (x15_4 + 1))) else (none)) = some (r1, r2) := by first | (rw [hy527]; with_reducible exact H) | (have H2_ := (Option.bind_some _ _).symm.trans H; rw [hy527]; with_reducible exact H2_) | (have H2_ := (Option.bind_some _ _).symm.trans H; with_reducible exact H2_) | with_reducible exact H | (rw [hy527]; exact H) | exact H
                                        have Ny527 := Aside0.mk hy527
                                        clear hy527
                                        by_cases c40 : x13_4.length + y527.length < 5864062014805
                                        · rw [if_pos c40] at H
                                          have LMc40 := Aside0.mk c40
                                          clear c40
                                          obtain ⟨y530, hy530⟩ : ∃ y_ : List (List ByteArray), y_ = (x13_4 ++ y527) := ⟨_, rfl⟩
                                          replace H : (spec_LengthenAll.l3 k4 l1 t490 x10_2 x11_2 t507 y530 x14_3 (wrap64 (x15_4 + 1))) = some (r1, r2) := by first | (rw [hy530]; with_reducible exact H) | (have H2_ := (Option.bind_some _ _).symm.trans H; rw [hy530]; with_reducible exact H2_) | (have H2_ := (Option.bind_some _ _).symm.trans H; with_reducible exact H2_) | with_reducible exact H | (rw [hy530]; exact H) | exact H
                                          have Ny530 := Aside0.mk hy530
                                          clear hy530
                                          have H' := Aside0.mk H
                                          clear H
                                          obtain ⟨Ao41, co41, eo41⟩ := Kd.R_slice HO_12.out
                                          subst eo41
                                          have p513 : 0 ≤ (x14_3 : Int) := of_decide_eq_true (by first | (with_reducible assumption) | assumption)
                                          have q513 : x14_3 < (x10_2.length : Int) := of_decide_eq_true (by first | (with_reducible assumption) | assumption)
                                          obtain ⟨ad513, A513_0, c513_0, e513, hx513_0, hl513_0, hi513_0⟩ := at_L9 (Kd.N_reads' HO_10.out).2.2 x14_3 p513 q513
                                          cases e513
                                          obtain ⟨ce513, hce513, hMe513, hcc513⟩ := Kd.N_get HO_10.out [] x14_3 p513 (by first | exact q513 | exact of_decide_eq_true (by first | (with_reducible assumption) | assumption) | (have e_ := (Kd.N_reads' HO_10.out).1; omega))
                                          obtain ⟨ua513_0, uc513_0, rfl, ul513_0, ge513_0⟩ := Kd.FK_slice_open hMe513
                                          have hv513_0 := hcc513 0 _ rfl
                                          rw [Nat.add_zero, show ((Kd.slice 9 Kd.string)).sz = 1 from rfl, Nat.mul_one] at hv513_0
                                          replace hv513_0 := Option.some.inj (hv513_0.symm.trans hx513_0)
                                          injection hv513_0 with hva_ hvn_ hvc_
                                          rw [hva_] at ge513_0
                                          rw [hvc_] at ul513_0
                                          have HL513_0 := Aside0.mk (show Kd.V Kd.string 9 _ w.heap.size _ _ (rd_L9 x10_2 x14_3) from Kd.V_mk ul513_0 ge513_0)
                                          clear hva_ hvn_ hvc_ ge513_0 ul513_0
                                          clear hcc513 hce513
                                          have HR513_0 := Aside0.mk hi513_0
                                          have HC513_0 := Aside0.mk hl513_0
                                          clear hi513_0 hl513_0
                                          replace p513 := eq_true p513
                                          replace q513 := eq_true q513
                                          have p514 : 0 ≤ (x15_4 : Int) := of_decide_eq_true (by first | (with_reducible assumption) | assumption)
                                          have q514 : x15_4 < (t507.length : Int) := of_decide_eq_true (by first | (with_reducible assumption) | assumption)
                                          obtain ⟨ad514, e514, hx514_0⟩ := Kd.at_string (Kd.R_reads' HO_12.out).2.2 x15_4 p514 q514
                                          cases e514
                                          replace p514 := eq_true p514
                                          replace q514 := eq_true q514
                                          obtain ⟨Ao42, co42, eo42⟩ := Kd.N_slice HO_13.out
                                          subst eo42
                                          try go_wp2
                                          have n0_ := Aside0.mk (Kd.R_drew HO_7.out)
                                          have n1_ := Aside0.mk (Kd.N_drew HO_10.out)
                                          have n2_ := Aside0.mk (Kd.R_drew HO_12.out)
                                          have n3_ := Aside0.mk (Kd.N_drew HO_13.out)
                                          have n4_ := Aside0.mk (Kd.V_drew HL513_0.out)
                                          have n5_ := Aside0.mk (Kd.C_drew HR513_0.out)
                                          have n6_ := Aside0.mk (below_drew1 HB.out)
                                          clear HO_7
                                          clear HO_10
                                          clear HO_12
                                          clear HO_13
                                          clear HL513_0
                                          clear HR513_0
                                          clear HB
                                          have HO_7 := n0_
                                          have HO_10 := n1_
                                          have HO_12 := n2_
                                          have HO_13 := n3_
                                          have HL513_0 := n4_
                                          have HR513_0 := n5_
                                          have HB := n6_
                                          clear n0_ n1_ n2_ n3_ n4_ n5_ n6_
                                          refine start_ (n := 16) (S := fun w' => w'.cell? (ad513.add x14_3.toNat) = some (.slice A513_0 (rd_L9 x10_2 x14_3).length c513_0) ∧ w'.cell? (ad514.add x15_4.toNat) = some (.string (rdOf ByteArray.empty t507 x15_4))) (ds := []) #[false, false, false, false, false, false, false, false, false, false, false, false, false, false, false, false] (by kernel_rfl) rfl rfl ⟨hx513_0, hx514_0⟩ (fun hHeld => ?_); refine with_tabW spec_LengthenAll.tab24 spec_LengthenAll.bits24 (fun HT_ HW_ => ?_)
                                          generalize wr.drew = w43 at HO_7 HO_10 HO_12 HO_13 HL513_0 HR513_0 HB hHeld ⊢
                                          refine pure_ (i := 0) (N := some 75) (v := ?_) (a' := ?_) #[true, false, false, false, false, false, false, false, false, false, false, false, false, false, false, false] rfl rfl (any_of HT_.out (by kernel_rfl)) (fun _ _ _ h => h) (Or.inl ⟨by rfl, ?_⟩) ?_ ?_
                                          rotate_left
                                          · intro w'
                                            go_simp
                                            with_reducible rfl
                                          rotate_left
                                          · simp only [Act.put, List.setIfInBounds_toArray, List.set_cons_zero, List.set_cons_succ, i64_w, i32_w]
                                            rfl
                                          refine pure_ (i := 2) (N := some 77) (v := ?_) (a' := ?_) #[true, false, true, false, false, false, false, false, false, false, false, false, false, false, false, false] rfl rfl (any_of HT_.out (by kernel_rfl)) (fun _ _ _ h => h) (Or.inl ⟨by rfl, ?_⟩) ?_ ?_
                                          rotate_left
                                          · intro w'
                                            go_simp
                                            with_reducible rfl
                                          rotate_left
                                          · simp only [Act.put, List.setIfInBounds_toArray, List.set_cons_zero, List.set_cons_succ, i64_w, i32_w]
                                            rfl
                                          refine pure_ (i := 3) (N := some 78) (v := ?_) (a' := ?_) #[true, false, true, true, false, false, false, false, false, false, false, false, false, false, false, false] rfl rfl (any_of HT_.out (by kernel_rfl)) (fun _ _ _ h => h) (Or.inl ⟨by rfl, ?_⟩) ?_ ?_
                                          rotate_left
                                          · intro w'
                                            go_simp
                                            with_reducible rfl
                                          rotate_left
                                          · simp only [Act.put, List.setIfInBounds_toArray, List.set_cons_zero, List.set_cons_succ, i64_w, i32_w]
                                            rfl
                                          refine pure_ (i := 4) (N := some 79) (v := ?_) (a' := ?_) #[true, false, true, true, true, false, false, false, false, false, false, false, false, false, false, false] rfl rfl (any_of HT_.out (by kernel_rfl)) (fun _ _ _ h => h) (Or.inl ⟨by rfl, ?_⟩) ?_ ?_
                                          rotate_left
                                          · intro w'
                                            go_simp
                                            with_reducible rfl
                                          rotate_left
                                          · simp only [Act.put, List.setIfInBounds_toArray, List.set_cons_zero, List.set_cons_succ, i64_w, i32_w]
                                            rfl
                                          refine take_ (i := 5) (N := some 80) (v := ?_) (a' := ?_) #[true, false, true, true, true, true, false, false, false, false, false, false, false, false, false, false] rfl rfl (take_ofW HT_.out HW_.out (by kernel_rfl)) (fun _ _ _ h => h) (Or.inl ⟨by rfl, ?_⟩) hHeld ?_ ?_
                                          rotate_left
                                          · rintro w' ⟨s0, s1⟩
                                            go_simp
                                            with_reducible rfl
                                          rotate_left
                                          · simp only [Act.put, List.setIfInBounds_toArray, List.set_cons_zero, List.set_cons_succ, i64_w, i32_w]
                                            rfl
                                          refine pure_ (i := 7) (N := some 82) (v := ?_) (a' := ?_) #[true, false, true, true, true, true, false, true, false, false, false, false, false, false, false, false] rfl rfl (any_of HT_.out (by kernel_rfl)) (fun _ _ _ h => h) (Or.inl ⟨by rfl, ?_⟩) ?_ ?_
                                          rotate_left
                                          · intro w'
                                            go_simp
                                            with_reducible rfl
                                          rotate_left
                                          · simp only [Act.put, List.setIfInBounds_toArray, List.set_cons_zero, List.set_cons_succ, i64_w, i32_w]
                                            rfl
                                          refine pure_ (i := 8) (N := some 83) (v := ?_) (a' := ?_) #[true, false, true, true, true, true, false, true, true, false, false, false, false, false, false, false] rfl rfl (any_of HT_.out (by kernel_rfl)) (fun _ _ _ h => h) (Or.inl ⟨by rfl, ?_⟩) ?_ ?_
                                          rotate_left
                                          · intro w'
                                            go_simp
                                            with_reducible rfl
                                          rotate_left
                                          · simp only [Act.put, List.setIfInBounds_toArray, List.set_cons_zero, List.set_cons_succ, i64_w, i32_w]
                                            rfl
                                          refine pure_ (i := 9) (N := some 84) (v := ?_) (a' := ?_) #[true, false, true, true, true, true, false, true, true, true, false, false, false, false, false, false] rfl rfl (any_of HT_.out (by kernel_rfl)) (fun _ _ _ h => h) (Or.inl ⟨by rfl, ?_⟩) ?_ ?_
                                          rotate_left
                                          · intro w'
                                            go_simp
                                            with_reducible rfl
                                          rotate_left
                                          · simp only [Act.put, List.setIfInBounds_toArray, List.set_cons_zero, List.set_cons_succ, i64_w, i32_w]
                                            rfl
                                          refine take_ (i := 10) (N := some 85) (v := ?_) (a' := ?_) #[true, false, true, true, true, true, false, true, true, true, true, false, false, false, false, false] rfl rfl (take_ofW HT_.out HW_.out (by kernel_rfl)) (fun _ _ _ h => h) (Or.inl ⟨by rfl, ?_⟩) hHeld ?_ ?_
                                          rotate_left
                                          · rintro w' ⟨s0, s1⟩
                                            go_simp
                                            with_reducible rfl
                                          rotate_left
                                          · simp only [Act.put, List.setIfInBounds_toArray, List.set_cons_zero, List.set_cons_succ, i64_w, i32_w]
                                            rfl
                                          refine join_ (σ := Value × Value × Value) 4 #[true, true, true, true, true, true, true, true, true, true, true, true, false, false, false, false] (fun s_ => [(76, s_.1), (81, s_.2.1), (86, s_.2.2)]) (fun s_ w' => (w'.cell? (ad513.add x14_3.toNat) = some (.slice A513_0 (rd_L9 x10_2 x14_3).length c513_0) ∧ w'.cell? (ad514.add x15_4.toNat) = some (.string (rdOf ByteArray.empty t507 x15_4))) ∧ (Kd.V Kd.string 9 w' w.heap.size (fun k_ => some k_ ≠ (s_.2.1 : Value).ownBlock ∧ some k_ ≠ (s_.2.2 : Value).ownBlock ∧ some k_ ≠ (.slice (some ad513) x10_2.length co33 : Value).ownBlock ∧ some k_ ≠ (.slice (some ad514) t507.length co41 : Value).ownBlock ∧ some k_ ≠ (.slice Ao42 x13_4.length co42 : Value).ownBlock ∧ some k_ ≠ (.slice (some ad506) t490.length co20 : Value).ownBlock) (.slice A513_0 (rd_L9 x10_2 x14_3).length c513_0) (rd_L9 x10_2 x14_3)) ∧ (Kd.R Kd.string 9 w' w.heap.size (fun k_ => some k_ ≠ (s_.2.2 : Value).ownBlock ∧ some k_ ≠ (.slice (some ad514) t507.length co41 : Value).ownBlock ∧ some k_ ≠ (.slice (some ad506) t490.length co20 : Value).ownBlock) s_.2.1 y518) ∧ (Kd.R Kd.string 9 w' w.heap.size (fun k_ => some k_ ≠ (s_.2.1 : Value).ownBlock ∧ some k_ ≠ (.slice (some ad514) t507.length co41 : Value).ownBlock ∧ some k_ ≠ (.slice (some ad506) t490.length co20 : Value).ownBlock) s_.2.2 y521) ∧ (Kd.N (Kd.slice 9 Kd.string) 37 w' w.heap.size (fun k_ => some k_ ≠ (s_.2.1 : Value).ownBlock ∧ some k_ ≠ (s_.2.2 : Value).ownBlock ∧ some k_ ≠ (.slice (some ad514) t507.length co41 : Value).ownBlock ∧ some k_ ≠ (.slice Ao42 x13_4.length co42 : Value).ownBlock ∧ some k_ ≠ (.slice (some ad506) t490.length co20 : Value).ownBlock) (.slice (some ad513) x10_2.length co33) x10_2) ∧ (Kd.R Kd.string 9 w' w.heap.size (fun k_ => some k_ ≠ (s_.2.1 : Value).ownBlock ∧ some k_ ≠ (s_.2.2 : Value).ownBlock ∧ some k_ ≠ (.slice (some ad506) t490.length co20 : Value).ownBlock) (.slice (some ad514) t507.length co41) t507) ∧ (Kd.N (Kd.slice 9 Kd.string) 37 w' w.heap.size (fun k_ => some k_ ≠ (s_.2.1 : Value).ownBlock ∧ some k_ ≠ (s_.2.2 : Value).ownBlock ∧ some k_ ≠ (.slice (some ad513) x10_2.length co33 : Value).ownBlock ∧ some k_ ≠ (.slice (some ad514) t507.length co41 : Value).ownBlock ∧ some k_ ≠ (.slice (some ad506) t490.length co20 : Value).ownBlock) (.slice Ao42 x13_4.length co42) x13_4) ∧ (Kd.R Kd.string 9 w' w.heap.size (fun k_ => some k_ ≠ (s_.2.1 : Value).ownBlock ∧ some k_ ≠ (s_.2.2 : Value).ownBlock ∧ some k_ ≠ (.slice (some ad514) t507.length co41 : Value).ownBlock) (.slice (some ad506) t490.length co20) t490) ∧ (Below w.heap.size w w')) ?_ ?_
                                          rotate_left
                                          · intro hCont
                                            refine two_ (i := 1) (j := 11) (Ni := some 76) (Nj := some 86) #[true, true, true, true, true, true, false, true, true, true, true, false, false, false, false, false] #[true, false, true, true, true, true, false, true, true, true, true, true, false, false, false, false] rfl rfl rfl rfl (two_of HT_.out (by kernel_rfl)) (by decide) (by decide) (fun K hK => ?_) (fun K hK => ?_)
                                            · skip
                                              refine Kd.R_lit_step Kd.string _ 9 ?hg (N := 76) ?hd (xs := ([] : List ByteArray)) (inner := []) (ok := fun _ => True) (okp := fun _ => True) ?hr ?hp (fun _ hk => hk) trivial (Below.refl _ _) (Nat.le_refl _) (by simp) ?_; (case hd => rfl); (case hg => rfl); (case hr => first | (go_simp; done) | (go_simp; rfl)); (case hp => exact (Reps.none _ _))
                                              intro v516 w44 ho45 hb hg_ hnew_
                                              have HS_ := And.intro (pw_cell_below hb hHeld.1) (pw_cell_below hb hHeld.2)
                                              clear hg_ hnew_
                                              (first | rw [← Ny515.out] at ho45 | (simp only [Int.reduceToNat] at ho45; rw [← Ny515.out] at ho45))
                                              have n0_ := Aside0.mk (Kd.R_elder' (by (with_reducible repeat (first | apply Kd.R_alloc | apply Kd.R_drewN | apply Kd.R_drew)); exact HO_7.out) (Kd.R_base ho45) hb)
                                              have n1_ := Aside0.mk (Kd.N_elder' (by (with_reducible repeat (first | apply Kd.N_alloc | apply Kd.N_drewN | apply Kd.N_drew)); exact HO_10.out) (Kd.R_base ho45) hb)
                                              have n2_ := Aside0.mk (Kd.R_elder' (by (with_reducible repeat (first | apply Kd.R_alloc | apply Kd.R_drewN | apply Kd.R_drew)); exact HO_12.out) (Kd.R_base ho45) hb)
                                              have n3_ := Aside0.mk (Kd.N_elder' (by (with_reducible repeat (first | apply Kd.N_alloc | apply Kd.N_drewN | apply Kd.N_drew)); exact HO_13.out) (Kd.R_base ho45) hb)
                                              have n4_ := Aside0.mk (Kd.V_elder' (by (with_reducible repeat (first | apply Kd.V_alloc | apply Kd.V_drewN | apply Kd.V_drew)); exact HL513_0.out) (Kd.R_base ho45) hb)
                                              have n5_ := Aside0.mk (Kd.R_lower (Kd.R_new' (Kd.R_new' ho45 (Kd.R_lt (by (with_reducible repeat (first | apply Kd.R_alloc | apply Kd.R_drewN | apply Kd.R_drew)); exact HO_7.out))) (Kd.R_lt (by (with_reducible repeat (first | apply Kd.R_alloc | apply Kd.R_drewN | apply Kd.R_drew)); exact HO_12.out))) (below_size (by repeat (first | (with_reducible first | exact HB.out | apply below_alloc | apply pw_below_drewN | apply below_drew1) | exact HB.out))))
                                              have n6_ := Aside0.mk (Kd.C_below (by repeat (first | (with_reducible exact HR513_0.out) | (with_reducible refine Kd.C_alloc ?_ _) | (with_reducible refine Kd.C_drewN ?_ _) | (with_reducible refine Kd.C_drew ?_) | exact HR513_0.out)) hb)
                                              have n7_ := Aside0.mk (below_step (by repeat (first | (with_reducible first | exact HB.out | apply below_alloc | apply pw_below_drewN | apply below_drew1) | exact HB.out)) hb)
                                              clear HO_7
                                              clear HO_10
                                              clear HO_12
                                              clear HO_13
                                              clear HL513_0
                                              clear HR513_0
                                              clear HB
                                              have HO_7 := n0_
                                              have HO_10 := n1_
                                              have HO_12 := n2_
                                              have HO_13 := n3_
                                              have HL513_0 := n4_
                                              have HO517 := n5_
                                              have HR513_0 := n6_
                                              have HB := n7_
                                              clear n0_ n1_ n2_ n3_ n4_ n5_ n6_ n7_
                                              clear hb ho45
                                              refine hK.out _ _ HS_ (fun hHeld => ?_)
                                              clear hK K
                                              refine norm_ (a' := ?_) ?_ ?_
                                              rotate_left
                                              · show Act.put _ (some 76) _ = _
                                                simp only [Act.put, List.setIfInBounds_toArray, List.set_cons_zero, List.set_cons_succ, i64_w, i32_w]
                                                rfl
                                              refine two_ (i := 6) (j := 11) (Ni := some 81) (Nj := some 86) #[true, true, true, true, true, true, true, true, true, true, true, false, false, false, false, false] #[true, true, true, true, true, true, false, true, true, true, true, true, false, false, false, false] rfl rfl rfl rfl (two_of HT_.out (by kernel_rfl)) (by decide) (by decide) (fun K hK => ?_) (fun K hK => ?_)
                                              · skip
                                                refine Kd.R_append_rows_step Kd.string (w0 := w) w.heap.size (by rfl) (.tmp 76) (.tmp 80) 37 9 (.string ⟨#[]⟩) 16 rfl Tryd.underlying37 info9 rfl (by decide) (by omega) v516 y515 (rd_L9 x10_2 x14_3) _ _ _ (fun k_ => some k_ ≠ (.slice (some ad506) t490.length co20 : Value).ownBlock ∧ some k_ ≠ (.slice (some ad514) t507.length co41 : Value).ownBlock) (fun _ => False) rfl rfl ?aO ?aR (fun _ _ h => h) (fun _ h => h.elim) ?aF ?aB ?aS ?aL ?_
                                                (case aR => repeat (first | exact (by repeat (first | (with_reducible exact HR513_0.out) | (with_reducible refine Kd.C_alloc ?_ _) | (with_reducible refine Kd.C_drewN ?_ _) | (with_reducible refine Kd.C_drew ?_) | exact HR513_0.out)) | (with_reducible refine Kd.C_alloc ?_ _) | (with_reducible refine Kd.C_drewN ?_ _) | (with_reducible refine Kd.C_drew ?_)))
                                                (case aB => exact (by repeat (first | (with_reducible first | exact HB.out | apply below_alloc | apply pw_below_drewN | apply below_drew1) | exact HB.out)))
                                                (case aF => exact (fun k_ hk => ⟨Kd.fresh' (Kd.R_lt (by (with_reducible repeat (first | apply Kd.R_alloc | apply Kd.R_drewN | apply Kd.R_drew)); exact HO_7.out)) k_ hk, Kd.fresh' (Kd.R_lt (by (with_reducible repeat (first | apply Kd.R_alloc | apply Kd.R_drewN | apply Kd.R_drew)); exact HO_12.out)) k_ hk⟩))
                                                (case aO => exact (by (with_reducible repeat (first | apply Kd.R_alloc | apply Kd.R_drewN | apply Kd.R_drew)); exact Kd.R_mono HO517.out (fun _ hk => ⟨hk.1.2, hk.2⟩)))
                                                (case aS => exact (below_size (by repeat (first | (with_reducible first | exact HB.out | apply below_alloc | apply pw_below_drewN | apply below_drew1) | exact HB.out))))
                                                (case aL => have := LMc38.out; omega)
                                                intro v519 w46 ho hb hg hat
                                                have HS_ := And.intro (cell_grown hg hHeld.1 (by rw [add_block]; have h_ := HO_10.out.1 _ rfl; first | exact h_ | exact h_.1 | exact h_.2 | exact h_.1.1 | exact h_.1.2 | exact h_.2.1 | exact h_.2.2 | exact h_.1.1.1 | exact h_.1.1.2 | exact h_.1.2.1 | exact h_.1.2.2 | exact h_.2.1.1 | exact h_.2.1.2 | exact h_.2.2.1 | exact h_.2.2.2 | exact h_.1.1.1.1 | exact h_.1.1.1.2 | exact h_.1.1.2.1 | exact h_.1.1.2.2 | exact h_.1.2.1.1 | exact h_.1.2.1.2 | exact h_.1.2.2.1 | exact h_.1.2.2.2 | exact h_.2.1.1.1 | exact h_.2.1.1.2 | exact h_.2.1.2.1 | exact h_.2.1.2.2 | exact h_.2.2.1.1 | exact h_.2.2.1.2 | exact h_.2.2.2.1 | exact h_.2.2.2.2 | exact h_.1.1.1.1.1 | exact h_.1.1.1.1.2 | exact h_.1.1.1.2.1 | exact h_.1.1.1.2.2 | exact h_.1.1.2.1.1 | exact h_.1.1.2.1.2 | exact h_.1.1.2.2.1 | exact h_.1.1.2.2.2 | exact h_.1.2.1.1.1 | exact h_.1.2.1.1.2 | exact h_.1.2.1.2.1 | exact h_.1.2.1.2.2 | exact h_.1.2.2.1.1 | exact h_.1.2.2.1.2 | exact h_.1.2.2.2.1 | exact h_.1.2.2.2.2 | exact h_.2.1.1.1.1 | exact h_.2.1.1.1.2 | exact h_.2.1.1.2.1 | exact h_.2.1.1.2.2 | exact h_.2.1.2.1.1 | exact h_.2.1.2.1.2 | exact h_.2.1.2.2.1 | exact h_.2.1.2.2.2 | exact h_.2.2.1.1.1 | exact h_.2.2.1.1.2 | exact h_.2.2.1.2.1 | exact h_.2.2.1.2.2 | exact h_.2.2.2.1.1 | exact h_.2.2.2.1.2 | exact h_.2.2.2.2.1 | exact h_.2.2.2.2.2 | exact (fun e_ => by have g_ := HO_13.out.1 _ e_.symm; first | exact g_ rfl | exact g_.1 rfl | exact g_.2 rfl | exact g_.1.1 rfl | exact g_.1.2 rfl | exact g_.2.1 rfl | exact g_.2.2 rfl | exact g_.1.1.1 rfl | exact g_.1.1.2 rfl | exact g_.1.2.1 rfl | exact g_.1.2.2 rfl | exact g_.2.1.1 rfl | exact g_.2.1.2 rfl | exact g_.2.2.1 rfl | exact g_.2.2.2 rfl | exact g_.1.1.1.1 rfl | exact g_.1.1.1.2 rfl | exact g_.1.1.2.1 rfl | exact g_.1.1.2.2 rfl | exact g_.1.2.1.1 rfl | exact g_.1.2.1.2 rfl | exact g_.1.2.2.1 rfl | exact g_.1.2.2.2 rfl | exact g_.2.1.1.1 rfl | exact g_.2.1.1.2 rfl | exact g_.2.1.2.1 rfl | exact g_.2.1.2.2 rfl | exact g_.2.2.1.1 rfl | exact g_.2.2.1.2 rfl | exact g_.2.2.2.1 rfl | exact g_.2.2.2.2 rfl | exact g_.1.1.1.1.1 rfl | exact g_.1.1.1.1.2 rfl | exact g_.1.1.1.2.1 rfl | exact g_.1.1.1.2.2 rfl | exact g_.1.1.2.1.1 rfl | exact g_.1.1.2.1.2 rfl | exact g_.1.1.2.2.1 rfl | exact g_.1.1.2.2.2 rfl | exact g_.1.2.1.1.1 rfl | exact g_.1.2.1.1.2 rfl | exact g_.1.2.1.2.1 rfl | exact g_.1.2.1.2.2 rfl | exact g_.1.2.2.1.1 rfl | exact g_.1.2.2.1.2 rfl | exact g_.1.2.2.2.1 rfl | exact g_.1.2.2.2.2 rfl | exact g_.2.1.1.1.1 rfl | exact g_.2.1.1.1.2 rfl | exact g_.2.1.1.2.1 rfl | exact g_.2.1.1.2.2 rfl | exact g_.2.1.2.1.1 rfl | exact g_.2.1.2.1.2 rfl | exact g_.2.1.2.2.1 rfl | exact g_.2.1.2.2.2 rfl | exact g_.2.2.1.1.1 rfl | exact g_.2.2.1.1.2 rfl | exact g_.2.2.1.2.1 rfl | exact g_.2.2.1.2.2 rfl | exact g_.2.2.2.1.1 rfl | exact g_.2.2.2.1.2 rfl | exact g_.2.2.2.2.1 rfl | exact g_.2.2.2.2.2 rfl))) (cell_grown hg hHeld.2 (by rw [add_block]; have h_ := HO_12.out.1 _ rfl; first | exact h_ | exact h_.1 | exact h_.2 | exact h_.1.1 | exact h_.1.2 | exact h_.2.1 | exact h_.2.2 | exact h_.1.1.1 | exact h_.1.1.2 | exact h_.1.2.1 | exact h_.1.2.2 | exact h_.2.1.1 | exact h_.2.1.2 | exact h_.2.2.1 | exact h_.2.2.2 | exact h_.1.1.1.1 | exact h_.1.1.1.2 | exact h_.1.1.2.1 | exact h_.1.1.2.2 | exact h_.1.2.1.1 | exact h_.1.2.1.2 | exact h_.1.2.2.1 | exact h_.1.2.2.2 | exact h_.2.1.1.1 | exact h_.2.1.1.2 | exact h_.2.1.2.1 | exact h_.2.1.2.2 | exact h_.2.2.1.1 | exact h_.2.2.1.2 | exact h_.2.2.2.1 | exact h_.2.2.2.2 | exact h_.1.1.1.1.1 | exact h_.1.1.1.1.2 | exact h_.1.1.1.2.1 | exact h_.1.1.1.2.2 | exact h_.1.1.2.1.1 | exact h_.1.1.2.1.2 | exact h_.1.1.2.2.1 | exact h_.1.1.2.2.2 | exact h_.1.2.1.1.1 | exact h_.1.2.1.1.2 | exact h_.1.2.1.2.1 | exact h_.1.2.1.2.2 | exact h_.1.2.2.1.1 | exact h_.1.2.2.1.2 | exact h_.1.2.2.2.1 | exact h_.1.2.2.2.2 | exact h_.2.1.1.1.1 | exact h_.2.1.1.1.2 | exact h_.2.1.1.2.1 | exact h_.2.1.1.2.2 | exact h_.2.1.2.1.1 | exact h_.2.1.2.1.2 | exact h_.2.1.2.2.1 | exact h_.2.1.2.2.2 | exact h_.2.2.1.1.1 | exact h_.2.2.1.1.2 | exact h_.2.2.1.2.1 | exact h_.2.2.1.2.2 | exact h_.2.2.2.1.1 | exact h_.2.2.2.1.2 | exact h_.2.2.2.2.1 | exact h_.2.2.2.2.2 | exact (fun e_ => by have g_ := HO_13.out.1 _ e_.symm; first | exact g_ rfl | exact g_.1 rfl | exact g_.2 rfl | exact g_.1.1 rfl | exact g_.1.2 rfl | exact g_.2.1 rfl | exact g_.2.2 rfl | exact g_.1.1.1 rfl | exact g_.1.1.2 rfl | exact g_.1.2.1 rfl | exact g_.1.2.2 rfl | exact g_.2.1.1 rfl | exact g_.2.1.2 rfl | exact g_.2.2.1 rfl | exact g_.2.2.2 rfl | exact g_.1.1.1.1 rfl | exact g_.1.1.1.2 rfl | exact g_.1.1.2.1 rfl | exact g_.1.1.2.2 rfl | exact g_.1.2.1.1 rfl | exact g_.1.2.1.2 rfl | exact g_.1.2.2.1 rfl | exact g_.1.2.2.2 rfl | exact g_.2.1.1.1 rfl | exact g_.2.1.1.2 rfl | exact g_.2.1.2.1 rfl | exact g_.2.1.2.2 rfl | exact g_.2.2.1.1 rfl | exact g_.2.2.1.2 rfl | exact g_.2.2.2.1 rfl | exact g_.2.2.2.2 rfl | exact g_.1.1.1.1.1 rfl | exact g_.1.1.1.1.2 rfl | exact g_.1.1.1.2.1 rfl | exact g_.1.1.1.2.2 rfl | exact g_.1.1.2.1.1 rfl | exact g_.1.1.2.1.2 rfl | exact g_.1.1.2.2.1 rfl | exact g_.1.1.2.2.2 rfl | exact g_.1.2.1.1.1 rfl | exact g_.1.2.1.1.2 rfl | exact g_.1.2.1.2.1 rfl | exact g_.1.2.1.2.2 rfl | exact g_.1.2.2.1.1 rfl | exact g_.1.2.2.1.2 rfl | exact g_.1.2.2.2.1 rfl | exact g_.1.2.2.2.2 rfl | exact g_.2.1.1.1.1 rfl | exact g_.2.1.1.1.2 rfl | exact g_.2.1.1.2.1 rfl | exact g_.2.1.1.2.2 rfl | exact g_.2.1.2.1.1 rfl | exact g_.2.1.2.1.2 rfl | exact g_.2.1.2.2.1 rfl | exact g_.2.1.2.2.2 rfl | exact g_.2.2.1.1.1 rfl | exact g_.2.2.1.1.2 rfl | exact g_.2.2.1.2.1 rfl | exact g_.2.2.1.2.2 rfl | exact g_.2.2.2.1.1 rfl | exact g_.2.2.2.1.2 rfl | exact g_.2.2.2.2.1 rfl | exact g_.2.2.2.2.2 rfl)))
                                                rw [← Ny518.out] at ho
                                                have n0_ := Aside0.mk (Kd.R_after (ok := (fun k_ => some k_ ≠ (.slice (some ad514) t507.length co41 : Value).ownBlock)) (by (with_reducible repeat (first | apply Kd.R_alloc | apply Kd.R_drewN | apply Kd.R_drew)); exact HO_7.out) hg hat)
                                                have n1_ := Aside0.mk (Kd.N_afterv (ok := (fun k_ => some k_ ≠ (.slice (some ad506) t490.length co20 : Value).ownBlock ∧ some k_ ≠ (.slice (some ad514) t507.length co41 : Value).ownBlock ∧ some k_ ≠ (.slice Ao42 x13_4.length co42 : Value).ownBlock)) (by (with_reducible repeat (first | apply Kd.N_alloc | apply Kd.N_drewN | apply Kd.N_drew)); exact HO_10.out) hg hat)
                                                have n2_ := Aside0.mk (Kd.R_after (ok := (fun k_ => some k_ ≠ (.slice (some ad506) t490.length co20 : Value).ownBlock)) (by (with_reducible repeat (first | apply Kd.R_alloc | apply Kd.R_drewN | apply Kd.R_drew)); exact HO_12.out) hg hat)
                                                have n3_ := Aside0.mk (Kd.N_afterv (ok := (fun k_ => some k_ ≠ (.slice (some ad506) t490.length co20 : Value).ownBlock ∧ some k_ ≠ (.slice (some ad513) x10_2.length co33 : Value).ownBlock ∧ some k_ ≠ (.slice (some ad514) t507.length co41 : Value).ownBlock)) (by (with_reducible repeat (first | apply Kd.N_alloc | apply Kd.N_drewN | apply Kd.N_drew)); exact HO_13.out) hg hat)
                                                have n4_ := Aside0.mk (Kd.V_afterv (ok := (fun k_ => some k_ ≠ (.slice (some ad506) t490.length co20 : Value).ownBlock ∧ some k_ ≠ (.slice (some ad513) x10_2.length co33 : Value).ownBlock ∧ some k_ ≠ (.slice (some ad514) t507.length co41 : Value).ownBlock ∧ some k_ ≠ (.slice Ao42 x13_4.length co42 : Value).ownBlock)) (by (with_reducible repeat (first | apply Kd.V_alloc | apply Kd.V_drewN | apply Kd.V_drew)); exact Kd.V_mono HL513_0.out (fun _ hk => ⟨⟨hk.1.1.1, ⟨hk.1.2, ⟨hk.1.1.2.1, hk.1.1.2.2⟩⟩⟩, hk.2⟩)) hg hat)
                                                have n5_ := Aside0.mk (hb)
                                                have n6_ := Aside0.mk (ho)
                                                clear HO_7
                                                clear HO_10
                                                clear HO_12
                                                clear HO_13
                                                clear HL513_0
                                                clear HB
                                                clear HO517
                                                have HO_7 := n0_
                                                have HO_10 := n1_
                                                have HO_12 := n2_
                                                have HO_13 := n3_
                                                have HL513_0 := n4_
                                                have HB := n5_
                                                have HO520 := n6_
                                                clear n0_ n1_ n2_ n3_ n4_ n5_ n6_
                                                clear ho hb hg hat
                                                refine hK.out _ _ HS_ (fun hHeld => ?_)
                                                clear hK K
                                                refine norm_ (a' := ?_) ?_ ?_
                                                rotate_left
                                                · show Act.put _ (some 81) _ = _
                                                  simp only [Act.put, List.setIfInBounds_toArray, List.set_cons_zero, List.set_cons_succ, i64_w, i32_w]
                                                  rfl
                                                refine one_ (i := 11) (N := some 86) #[true, true, true, true, true, true, true, true, true, true, true, true, false, false, false, false] rfl rfl (one_of HT_.out (by kernel_rfl)) (by decide) (fun K hK => ?_)
                                                refine Kd.R_lit_step Kd.string _ 9 ?hg (N := 86) ?hd (xs := ([rdOf ByteArray.empty t507 x15_4] : List ByteArray)) (inner := [.string (rdOf ByteArray.empty t507 x15_4)]) (ok := fun _ => True) (okp := fun _ => True) ?hr ?hp (fun _ hk => hk) trivial (Below.refl _ _) (Nat.le_refl _) (by simp) ?_; (case hd => rfl); (case hg => rfl); (case hr => first | (go_simp; done) | (go_simp; rfl)); (case hp => exact (Reps.one (show Kd.M Kd.string _ _ _ (rdOf ByteArray.empty t507 x15_4) [.string (rdOf ByteArray.empty t507 x15_4)] from rfl) (Reps.none _ _)))
                                                intro v522 w47 ho48 hb hg_ hnew_
                                                have HS_ := And.intro (pw_cell_below hb hHeld.1) (pw_cell_below hb hHeld.2)
                                                clear hg_ hnew_
                                                (first | rw [← Ny521.out] at ho48 | (simp only [Int.reduceToNat] at ho48; rw [← Ny521.out] at ho48))
                                                have n0_ := Aside0.mk (Kd.R_elder' (by (with_reducible repeat (first | apply Kd.R_alloc | apply Kd.R_drewN | apply Kd.R_drew)); exact HO_7.out) (Kd.R_base ho48) hb)
                                                have n1_ := Aside0.mk (Kd.N_elder' (by (with_reducible repeat (first | apply Kd.N_alloc | apply Kd.N_drewN | apply Kd.N_drew)); exact HO_10.out) (Kd.R_base ho48) hb)
                                                have n2_ := Aside0.mk (Kd.R_elder' (by (with_reducible repeat (first | apply Kd.R_alloc | apply Kd.R_drewN | apply Kd.R_drew)); exact HO_12.out) (Kd.R_base ho48) hb)
                                                have n3_ := Aside0.mk (Kd.N_elder' (by (with_reducible repeat (first | apply Kd.N_alloc | apply Kd.N_drewN | apply Kd.N_drew)); exact HO_13.out) (Kd.R_base ho48) hb)
                                                have n4_ := Aside0.mk (Kd.V_elder' (by (with_reducible repeat (first | apply Kd.V_alloc | apply Kd.V_drewN | apply Kd.V_drew)); exact HL513_0.out) (Kd.R_base ho48) hb)
                                                have n5_ := Aside0.mk (Kd.R_elder' (by (with_reducible repeat (first | apply Kd.R_alloc | apply Kd.R_drewN | apply Kd.R_drew)); exact HO520.out) (Kd.R_base ho48) hb)
                                                have n6_ := Aside0.mk (Kd.R_lower (Kd.R_new' (Kd.R_new' (Kd.R_new' ho48 (Kd.R_lt (by (with_reducible repeat (first | apply Kd.R_alloc | apply Kd.R_drewN | apply Kd.R_drew)); exact HO_7.out))) (Kd.R_lt (by (with_reducible repeat (first | apply Kd.R_alloc | apply Kd.R_drewN | apply Kd.R_drew)); exact HO_12.out))) (Kd.R_lt (by (with_reducible repeat (first | apply Kd.R_alloc | apply Kd.R_drewN | apply Kd.R_drew)); exact HO520.out))) (below_size (by repeat (first | (with_reducible first | exact HB.out | apply below_alloc | apply pw_below_drewN | apply below_drew1) | exact HB.out))))
                                                have n7_ := Aside0.mk (below_step (by repeat (first | (with_reducible first | exact HB.out | apply below_alloc | apply pw_below_drewN | apply below_drew1) | exact HB.out)) hb)
                                                clear HO_7
                                                clear HO_10
                                                clear HO_12
                                                clear HO_13
                                                clear HL513_0
                                                clear HO520
                                                clear HB
                                                have HO_7 := n0_
                                                have HO_10 := n1_
                                                have HO_12 := n2_
                                                have HO_13 := n3_
                                                have HL513_0 := n4_
                                                have HO520 := n5_
                                                have HO523 := n6_
                                                have HB := n7_
                                                clear n0_ n1_ n2_ n3_ n4_ n5_ n6_ n7_
                                                clear hb ho48
                                                refine hK.out _ _ HS_ (fun hHeld => ?_)
                                                clear hK K
                                                refine norm_ (a' := ?_) ?_ ?_
                                                rotate_left
                                                · show Act.put _ (some 86) _ = _
                                                  simp only [Act.put, List.setIfInBounds_toArray, List.set_cons_zero, List.set_cons_succ, i64_w, i32_w]
                                                  rfl
                                                exact norm_ (by simp only [putAll, Act.put, List.setIfInBounds_toArray, List.set_cons_zero, List.set_cons_succ]) (hCont (v516, v519, v522) _ ⟨hHeld, (by (with_reducible repeat (first | apply Kd.V_alloc | apply Kd.V_drewN | apply Kd.V_drew)); exact Kd.V_mono HL513_0.out (fun _ hk => ⟨hk.1.2, ⟨hk.2, ⟨hk.1.1.2.1, ⟨hk.1.1.2.2.1, ⟨hk.1.1.2.2.2, hk.1.1.1⟩⟩⟩⟩⟩)), (by (with_reducible repeat (first | apply Kd.R_alloc | apply Kd.R_drewN | apply Kd.R_drew)); exact Kd.R_mono HO520.out (fun _ hk => ⟨hk.2, ⟨hk.1.2, hk.1.1⟩⟩)), (by (with_reducible repeat (first | apply Kd.R_alloc | apply Kd.R_drewN | apply Kd.R_drew)); exact Kd.R_mono HO523.out (fun _ hk => ⟨hk.2, ⟨hk.1.2, hk.1.1.2⟩⟩)), (by (with_reducible repeat (first | apply Kd.N_alloc | apply Kd.N_drewN | apply Kd.N_drew)); exact Kd.N_mono HO_10.out (fun _ hk => ⟨hk.1.2, ⟨hk.2, ⟨hk.1.1.2.1, ⟨hk.1.1.2.2, hk.1.1.1⟩⟩⟩⟩)), (by (with_reducible repeat (first | apply Kd.R_alloc | apply Kd.R_drewN | apply Kd.R_drew)); exact Kd.R_mono HO_12.out (fun _ hk => ⟨hk.1.2, ⟨hk.2, hk.1.1⟩⟩)), (by (with_reducible repeat (first | apply Kd.N_alloc | apply Kd.N_drewN | apply Kd.N_drew)); exact Kd.N_mono HO_13.out (fun _ hk => ⟨hk.1.2, ⟨hk.2, ⟨hk.1.1.2.1, ⟨hk.1.1.2.2, hk.1.1.1⟩⟩⟩⟩)), (by (with_reducible repeat (first | apply Kd.R_alloc | apply Kd.R_drewN | apply Kd.R_drew)); exact Kd.R_mono HO_7.out (fun _ hk => ⟨hk.1.2, ⟨hk.2, hk.1.1⟩⟩)), (by repeat (first | (with_reducible first | exact HB.out | apply below_alloc | apply pw_below_drewN | apply below_drew1) | exact HB.out))⟩)
                                              · skip
                                                refine Kd.R_lit_step Kd.string _ 9 ?hg (N := 86) ?hd (xs := ([rdOf ByteArray.empty t507 x15_4] : List ByteArray)) (inner := [.string (rdOf ByteArray.empty t507 x15_4)]) (ok := fun _ => True) (okp := fun _ => True) ?hr ?hp (fun _ hk => hk) trivial (Below.refl _ _) (Nat.le_refl _) (by simp) ?_; (case hd => rfl); (case hg => rfl); (case hr => first | (go_simp; done) | (go_simp; rfl)); (case hp => exact (Reps.one (show Kd.M Kd.string _ _ _ (rdOf ByteArray.empty t507 x15_4) [.string (rdOf ByteArray.empty t507 x15_4)] from rfl) (Reps.none _ _)))
                                                intro v522 w46 ho47 hb hg_ hnew_
                                                have HS_ := And.intro (pw_cell_below hb hHeld.1) (pw_cell_below hb hHeld.2)
                                                clear hg_ hnew_
                                                (first | rw [← Ny521.out] at ho47 | (simp only [Int.reduceToNat] at ho47; rw [← Ny521.out] at ho47))
                                                have n0_ := Aside0.mk (Kd.R_elder' (by (with_reducible repeat (first | apply Kd.R_alloc | apply Kd.R_drewN | apply Kd.R_drew)); exact HO_7.out) (Kd.R_base ho47) hb)
                                                have n1_ := Aside0.mk (Kd.N_elder' (by (with_reducible repeat (first | apply Kd.N_alloc | apply Kd.N_drewN | apply Kd.N_drew)); exact HO_10.out) (Kd.R_base ho47) hb)
                                                have n2_ := Aside0.mk (Kd.R_elder' (by (with_reducible repeat (first | apply Kd.R_alloc | apply Kd.R_drewN | apply Kd.R_drew)); exact HO_12.out) (Kd.R_base ho47) hb)
                                                have n3_ := Aside0.mk (Kd.N_elder' (by (with_reducible repeat (first | apply Kd.N_alloc | apply Kd.N_drewN | apply Kd.N_drew)); exact HO_13.out) (Kd.R_base ho47) hb)
                                                have n4_ := Aside0.mk (Kd.V_elder' (by (with_reducible repeat (first | apply Kd.V_alloc | apply Kd.V_drewN | apply Kd.V_drew)); exact HL513_0.out) (Kd.R_base ho47) hb)
                                                have n5_ := Aside0.mk (Kd.R_elder' (by (with_reducible repeat (first | apply Kd.R_alloc | apply Kd.R_drewN | apply Kd.R_drew)); exact HO517.out) (Kd.R_base ho47) hb)
                                                have n6_ := Aside0.mk (Kd.R_lower (Kd.R_new' (Kd.R_new' (Kd.R_new' ho47 (Kd.R_lt (by (with_reducible repeat (first | apply Kd.R_alloc | apply Kd.R_drewN | apply Kd.R_drew)); exact HO_7.out))) (Kd.R_lt (by (with_reducible repeat (first | apply Kd.R_alloc | apply Kd.R_drewN | apply Kd.R_drew)); exact HO_12.out))) (Kd.R_lt (by (with_reducible repeat (first | apply Kd.R_alloc | apply Kd.R_drewN | apply Kd.R_drew)); exact HO517.out))) (below_size (by repeat (first | (with_reducible first | exact HB.out | apply below_alloc | apply pw_below_drewN | apply below_drew1) | exact HB.out))))
                                                have n7_ := Aside0.mk (Kd.C_below (by repeat (first | (with_reducible exact HR513_0.out) | (with_reducible refine Kd.C_alloc ?_ _) | (with_reducible refine Kd.C_drewN ?_ _) | (with_reducible refine Kd.C_drew ?_) | exact HR513_0.out)) hb)
                                                have n8_ := Aside0.mk (below_step (by repeat (first | (with_reducible first | exact HB.out | apply below_alloc | apply pw_below_drewN | apply below_drew1) | exact HB.out)) hb)
                                                clear HO_7
                                                clear HO_10
                                                clear HO_12
                                                clear HO_13
                                                clear HL513_0
                                                clear HO517
                                                clear HR513_0
                                                clear HB
                                                have HO_7 := n0_
                                                have HO_10 := n1_
                                                have HO_12 := n2_
                                                have HO_13 := n3_
                                                have HL513_0 := n4_
                                                have HO517 := n5_
                                                have HO523 := n6_
                                                have HR513_0 := n7_
                                                have HB := n8_
                                                clear n0_ n1_ n2_ n3_ n4_ n5_ n6_ n7_ n8_
                                                clear hb ho47
                                                refine hK.out _ _ HS_ (fun hHeld => ?_)
                                                clear hK K
                                                refine norm_ (a' := ?_) ?_ ?_
                                                rotate_left
                                                · show Act.put _ (some 86) _ = _
                                                  simp only [Act.put, List.setIfInBounds_toArray, List.set_cons_zero, List.set_cons_succ, i64_w, i32_w]
                                                  rfl
                                                refine one_ (i := 6) (N := some 81) #[true, true, true, true, true, true, true, true, true, true, true, true, false, false, false, false] rfl rfl (one_of HT_.out (by kernel_rfl)) (by decide) (fun K hK => ?_)
                                                refine Kd.R_append_rows_step Kd.string (w0 := w) w.heap.size (by rfl) (.tmp 76) (.tmp 80) 37 9 (.string ⟨#[]⟩) 16 rfl Tryd.underlying37 info9 rfl (by decide) (by omega) v516 y515 (rd_L9 x10_2 x14_3) _ _ _ (fun k_ => some k_ ≠ (.slice (some ad506) t490.length co20 : Value).ownBlock ∧ some k_ ≠ (.slice (some ad514) t507.length co41 : Value).ownBlock ∧ some k_ ≠ (v522 : Value).ownBlock) (fun _ => False) rfl rfl ?aO ?aR (fun _ _ h => h) (fun _ h => h.elim) ?aF ?aB ?aS ?aL ?_
                                                (case aR => repeat (first | exact (by repeat (first | (with_reducible exact HR513_0.out) | (with_reducible refine Kd.C_alloc ?_ _) | (with_reducible refine Kd.C_drewN ?_ _) | (with_reducible refine Kd.C_drew ?_) | exact HR513_0.out)) | (with_reducible refine Kd.C_alloc ?_ _) | (with_reducible refine Kd.C_drewN ?_ _) | (with_reducible refine Kd.C_drew ?_)))
                                                (case aB => exact (by repeat (first | (with_reducible first | exact HB.out | apply below_alloc | apply pw_below_drewN | apply below_drew1) | exact HB.out)))
                                                (case aF => exact (fun k_ hk => ⟨Kd.fresh' (Kd.R_lt (by (with_reducible repeat (first | apply Kd.R_alloc | apply Kd.R_drewN | apply Kd.R_drew)); exact HO_7.out)) k_ hk, Kd.fresh' (Kd.R_lt (by (with_reducible repeat (first | apply Kd.R_alloc | apply Kd.R_drewN | apply Kd.R_drew)); exact HO_12.out)) k_ hk, Kd.fresh' (Kd.R_lt (by (with_reducible repeat (first | apply Kd.R_alloc | apply Kd.R_drewN | apply Kd.R_drew)); exact HO523.out)) k_ hk⟩))
                                                (case aO => exact (by (with_reducible repeat (first | apply Kd.R_alloc | apply Kd.R_drewN | apply Kd.R_drew)); exact Kd.R_mono HO517.out (fun _ hk => ⟨hk.1.1.2, ⟨hk.1.2, hk.2⟩⟩)))
                                                (case aS => exact (below_size (by repeat (first | (with_reducible first | exact HB.out | apply below_alloc | apply pw_below_drewN | apply below_drew1) | exact HB.out))))
                                                (case aL => have := LMc38.out; omega)
                                                intro v519 w48 ho hb hg hat
                                                have HS_ := And.intro (cell_grown hg hHeld.1 (by rw [add_block]; have h_ := HO_10.out.1 _ rfl; first | exact h_ | exact h_.1 | exact h_.2 | exact h_.1.1 | exact h_.1.2 | exact h_.2.1 | exact h_.2.2 | exact h_.1.1.1 | exact h_.1.1.2 | exact h_.1.2.1 | exact h_.1.2.2 | exact h_.2.1.1 | exact h_.2.1.2 | exact h_.2.2.1 | exact h_.2.2.2 | exact h_.1.1.1.1 | exact h_.1.1.1.2 | exact h_.1.1.2.1 | exact h_.1.1.2.2 | exact h_.1.2.1.1 | exact h_.1.2.1.2 | exact h_.1.2.2.1 | exact h_.1.2.2.2 | exact h_.2.1.1.1 | exact h_.2.1.1.2 | exact h_.2.1.2.1 | exact h_.2.1.2.2 | exact h_.2.2.1.1 | exact h_.2.2.1.2 | exact h_.2.2.2.1 | exact h_.2.2.2.2 | exact h_.1.1.1.1.1 | exact h_.1.1.1.1.2 | exact h_.1.1.1.2.1 | exact h_.1.1.1.2.2 | exact h_.1.1.2.1.1 | exact h_.1.1.2.1.2 | exact h_.1.1.2.2.1 | exact h_.1.1.2.2.2 | exact h_.1.2.1.1.1 | exact h_.1.2.1.1.2 | exact h_.1.2.1.2.1 | exact h_.1.2.1.2.2 | exact h_.1.2.2.1.1 | exact h_.1.2.2.1.2 | exact h_.1.2.2.2.1 | exact h_.1.2.2.2.2 | exact h_.2.1.1.1.1 | exact h_.2.1.1.1.2 | exact h_.2.1.1.2.1 | exact h_.2.1.1.2.2 | exact h_.2.1.2.1.1 | exact h_.2.1.2.1.2 | exact h_.2.1.2.2.1 | exact h_.2.1.2.2.2 | exact h_.2.2.1.1.1 | exact h_.2.2.1.1.2 | exact h_.2.2.1.2.1 | exact h_.2.2.1.2.2 | exact h_.2.2.2.1.1 | exact h_.2.2.2.1.2 | exact h_.2.2.2.2.1 | exact h_.2.2.2.2.2 | exact (fun e_ => by have g_ := HO_13.out.1 _ e_.symm; first | exact g_ rfl | exact g_.1 rfl | exact g_.2 rfl | exact g_.1.1 rfl | exact g_.1.2 rfl | exact g_.2.1 rfl | exact g_.2.2 rfl | exact g_.1.1.1 rfl | exact g_.1.1.2 rfl | exact g_.1.2.1 rfl | exact g_.1.2.2 rfl | exact g_.2.1.1 rfl | exact g_.2.1.2 rfl | exact g_.2.2.1 rfl | exact g_.2.2.2 rfl | exact g_.1.1.1.1 rfl | exact g_.1.1.1.2 rfl | exact g_.1.1.2.1 rfl | exact g_.1.1.2.2 rfl | exact g_.1.2.1.1 rfl | exact g_.1.2.1.2 rfl | exact g_.1.2.2.1 rfl | exact g_.1.2.2.2 rfl | exact g_.2.1.1.1 rfl | exact g_.2.1.1.2 rfl | exact g_.2.1.2.1 rfl | exact g_.2.1.2.2 rfl | exact g_.2.2.1.1 rfl | exact g_.2.2.1.2 rfl | exact g_.2.2.2.1 rfl | exact g_.2.2.2.2 rfl | exact g_.1.1.1.1.1 rfl | exact g_.1.1.1.1.2 rfl | exact g_.1.1.1.2.1 rfl | exact g_.1.1.1.2.2 rfl | exact g_.1.1.2.1.1 rfl | exact g_.1.1.2.1.2 rfl | exact g_.1.1.2.2.1 rfl | exact g_.1.1.2.2.2 rfl | exact g_.1.2.1.1.1 rfl | exact g_.1.2.1.1.2 rfl | exact g_.1.2.1.2.1 rfl | exact g_.1.2.1.2.2 rfl | exact g_.1.2.2.1.1 rfl | exact g_.1.2.2.1.2 rfl | exact g_.1.2.2.2.1 rfl | exact g_.1.2.2.2.2 rfl | exact g_.2.1.1.1.1 rfl | exact g_.2.1.1.1.2 rfl | exact g_.2.1.1.2.1 rfl | exact g_.2.1.1.2.2 rfl | exact g_.2.1.2.1.1 rfl | exact g_.2.1.2.1.2 rfl | exact g_.2.1.2.2.1 rfl | exact g_.2.1.2.2.2 rfl | exact g_.2.2.1.1.1 rfl | exact g_.2.2.1.1.2 rfl | exact g_.2.2.1.2.1 rfl | exact g_.2.2.1.2.2 rfl | exact g_.2.2.2.1.1 rfl | exact g_.2.2.2.1.2 rfl | exact g_.2.2.2.2.1 rfl | exact g_.2.2.2.2.2 rfl))) (cell_grown hg hHeld.2 (by rw [add_block]; have h_ := HO_12.out.1 _ rfl; first | exact h_ | exact h_.1 | exact h_.2 | exact h_.1.1 | exact h_.1.2 | exact h_.2.1 | exact h_.2.2 | exact h_.1.1.1 | exact h_.1.1.2 | exact h_.1.2.1 | exact h_.1.2.2 | exact h_.2.1.1 | exact h_.2.1.2 | exact h_.2.2.1 | exact h_.2.2.2 | exact h_.1.1.1.1 | exact h_.1.1.1.2 | exact h_.1.1.2.1 | exact h_.1.1.2.2 | exact h_.1.2.1.1 | exact h_.1.2.1.2 | exact h_.1.2.2.1 | exact h_.1.2.2.2 | exact h_.2.1.1.1 | exact h_.2.1.1.2 | exact h_.2.1.2.1 | exact h_.2.1.2.2 | exact h_.2.2.1.1 | exact h_.2.2.1.2 | exact h_.2.2.2.1 | exact h_.2.2.2.2 | exact h_.1.1.1.1.1 | exact h_.1.1.1.1.2 | exact h_.1.1.1.2.1 | exact h_.1.1.1.2.2 | exact h_.1.1.2.1.1 | exact h_.1.1.2.1.2 | exact h_.1.1.2.2.1 | exact h_.1.1.2.2.2 | exact h_.1.2.1.1.1 | exact h_.1.2.1.1.2 | exact h_.1.2.1.2.1 | exact h_.1.2.1.2.2 | exact h_.1.2.2.1.1 | exact h_.1.2.2.1.2 | exact h_.1.2.2.2.1 | exact h_.1.2.2.2.2 | exact h_.2.1.1.1.1 | exact h_.2.1.1.1.2 | exact h_.2.1.1.2.1 | exact h_.2.1.1.2.2 | exact h_.2.1.2.1.1 | exact h_.2.1.2.1.2 | exact h_.2.1.2.2.1 | exact h_.2.1.2.2.2 | exact h_.2.2.1.1.1 | exact h_.2.2.1.1.2 | exact h_.2.2.1.2.1 | exact h_.2.2.1.2.2 | exact h_.2.2.2.1.1 | exact h_.2.2.2.1.2 | exact h_.2.2.2.2.1 | exact h_.2.2.2.2.2 | exact (fun e_ => by have g_ := HO_13.out.1 _ e_.symm; first | exact g_ rfl | exact g_.1 rfl | exact g_.2 rfl | exact g_.1.1 rfl | exact g_.1.2 rfl | exact g_.2.1 rfl | exact g_.2.2 rfl | exact g_.1.1.1 rfl | exact g_.1.1.2 rfl | exact g_.1.2.1 rfl | exact g_.1.2.2 rfl | exact g_.2.1.1 rfl | exact g_.2.1.2 rfl | exact g_.2.2.1 rfl | exact g_.2.2.2 rfl | exact g_.1.1.1.1 rfl | exact g_.1.1.1.2 rfl | exact g_.1.1.2.1 rfl | exact g_.1.1.2.2 rfl | exact g_.1.2.1.1 rfl | exact g_.1.2.1.2 rfl | exact g_.1.2.2.1 rfl | exact g_.1.2.2.2 rfl | exact g_.2.1.1.1 rfl | exact g_.2.1.1.2 rfl | exact g_.2.1.2.1 rfl | exact g_.2.1.2.2 rfl | exact g_.2.2.1.1 rfl | exact g_.2.2.1.2 rfl | exact g_.2.2.2.1 rfl | exact g_.2.2.2.2 rfl | exact g_.1.1.1.1.1 rfl | exact g_.1.1.1.1.2 rfl | exact g_.1.1.1.2.1 rfl | exact g_.1.1.1.2.2 rfl | exact g_.1.1.2.1.1 rfl | exact g_.1.1.2.1.2 rfl | exact g_.1.1.2.2.1 rfl | exact g_.1.1.2.2.2 rfl | exact g_.1.2.1.1.1 rfl | exact g_.1.2.1.1.2 rfl | exact g_.1.2.1.2.1 rfl | exact g_.1.2.1.2.2 rfl | exact g_.1.2.2.1.1 rfl | exact g_.1.2.2.1.2 rfl | exact g_.1.2.2.2.1 rfl | exact g_.1.2.2.2.2 rfl | exact g_.2.1.1.1.1 rfl | exact g_.2.1.1.1.2 rfl | exact g_.2.1.1.2.1 rfl | exact g_.2.1.1.2.2 rfl | exact g_.2.1.2.1.1 rfl | exact g_.2.1.2.1.2 rfl | exact g_.2.1.2.2.1 rfl | exact g_.2.1.2.2.2 rfl | exact g_.2.2.1.1.1 rfl | exact g_.2.2.1.1.2 rfl | exact g_.2.2.1.2.1 rfl | exact g_.2.2.1.2.2 rfl | exact g_.2.2.2.1.1 rfl | exact g_.2.2.2.1.2 rfl | exact g_.2.2.2.2.1 rfl | exact g_.2.2.2.2.2 rfl)))
                                                rw [← Ny518.out] at ho
                                                have n0_ := Aside0.mk (Kd.R_after (ok := (fun k_ => some k_ ≠ (.slice (some ad514) t507.length co41 : Value).ownBlock ∧ some k_ ≠ (v522 : Value).ownBlock)) (by (with_reducible repeat (first | apply Kd.R_alloc | apply Kd.R_drewN | apply Kd.R_drew)); exact Kd.R_mono HO_7.out (fun _ hk => ⟨⟨hk.1.1, hk.2⟩, hk.1.2⟩)) hg hat)
                                                have n1_ := Aside0.mk (Kd.N_afterv (ok := (fun k_ => some k_ ≠ (.slice (some ad506) t490.length co20 : Value).ownBlock ∧ some k_ ≠ (.slice (some ad514) t507.length co41 : Value).ownBlock ∧ some k_ ≠ (.slice Ao42 x13_4.length co42 : Value).ownBlock ∧ some k_ ≠ (v522 : Value).ownBlock)) (by (with_reducible repeat (first | apply Kd.N_alloc | apply Kd.N_drewN | apply Kd.N_drew)); exact Kd.N_mono HO_10.out (fun _ hk => ⟨⟨hk.1.1.1, ⟨hk.1.1.2.1, ⟨hk.1.1.2.2, hk.2⟩⟩⟩, hk.1.2⟩)) hg hat)
                                                have n2_ := Aside0.mk (Kd.R_after (ok := (fun k_ => some k_ ≠ (.slice (some ad506) t490.length co20 : Value).ownBlock ∧ some k_ ≠ (v522 : Value).ownBlock)) (by (with_reducible repeat (first | apply Kd.R_alloc | apply Kd.R_drewN | apply Kd.R_drew)); exact Kd.R_mono HO_12.out (fun _ hk => ⟨⟨hk.1.1, hk.2⟩, hk.1.2⟩)) hg hat)
                                                have n3_ := Aside0.mk (Kd.N_afterv (ok := (fun k_ => some k_ ≠ (.slice (some ad506) t490.length co20 : Value).ownBlock ∧ some k_ ≠ (.slice (some ad513) x10_2.length co33 : Value).ownBlock ∧ some k_ ≠ (.slice (some ad514) t507.length co41 : Value).ownBlock ∧ some k_ ≠ (v522 : Value).ownBlock)) (by (with_reducible repeat (first | apply Kd.N_alloc | apply Kd.N_drewN | apply Kd.N_drew)); exact Kd.N_mono HO_13.out (fun _ hk => ⟨⟨hk.1.1.1, ⟨hk.1.1.2.1, ⟨hk.1.1.2.2, hk.2⟩⟩⟩, hk.1.2⟩)) hg hat)
                                                have n4_ := Aside0.mk (Kd.V_afterv (ok := (fun k_ => some k_ ≠ (.slice (some ad506) t490.length co20 : Value).ownBlock ∧ some k_ ≠ (.slice (some ad513) x10_2.length co33 : Value).ownBlock ∧ some k_ ≠ (.slice (some ad514) t507.length co41 : Value).ownBlock ∧ some k_ ≠ (.slice Ao42 x13_4.length co42 : Value).ownBlock ∧ some k_ ≠ (v522 : Value).ownBlock)) (by (with_reducible repeat (first | apply Kd.V_alloc | apply Kd.V_drewN | apply Kd.V_drew)); exact Kd.V_mono HL513_0.out (fun _ hk => ⟨⟨hk.1.1.1.1, ⟨hk.1.1.2, ⟨hk.1.1.1.2.1, ⟨hk.1.1.1.2.2, hk.2⟩⟩⟩⟩, hk.1.2⟩)) hg hat)
                                                have n5_ := Aside0.mk (Kd.R_after (ok := (fun k_ => some k_ ≠ (.slice (some ad506) t490.length co20 : Value).ownBlock ∧ some k_ ≠ (.slice (some ad514) t507.length co41 : Value).ownBlock)) (by (with_reducible repeat (first | apply Kd.R_alloc | apply Kd.R_drewN | apply Kd.R_drew)); exact Kd.R_mono HO523.out (fun _ hk => ⟨⟨hk.1.1.2, hk.1.2⟩, hk.2⟩)) hg hat)
                                                have n6_ := Aside0.mk (hb)
                                                have n7_ := Aside0.mk (ho)
                                                clear HO_7
                                                clear HO_10
                                                clear HO_12
                                                clear HO_13
                                                clear HL513_0
                                                clear HO523
                                                clear HB
                                                clear HO517
                                                have HO_7 := n0_
                                                have HO_10 := n1_
                                                have HO_12 := n2_
                                                have HO_13 := n3_
                                                have HL513_0 := n4_
                                                have HO523 := n5_
                                                have HB := n6_
                                                have HO520 := n7_
                                                clear n0_ n1_ n2_ n3_ n4_ n5_ n6_ n7_
                                                clear ho hb hg hat
                                                refine hK.out _ _ HS_ (fun hHeld => ?_)
                                                clear hK K
                                                refine norm_ (a' := ?_) ?_ ?_
                                                rotate_left
                                                · show Act.put _ (some 81) _ = _
                                                  simp only [Act.put, List.setIfInBounds_toArray, List.set_cons_zero, List.set_cons_succ, i64_w, i32_w]
                                                  rfl
                                                exact norm_ (by simp only [putAll, Act.put, List.setIfInBounds_toArray, List.set_cons_zero, List.set_cons_succ]) (hCont (v516, v519, v522) _ ⟨hHeld, (by (with_reducible repeat (first | apply Kd.V_alloc | apply Kd.V_drewN | apply Kd.V_drew)); exact Kd.V_mono HL513_0.out (fun _ hk => ⟨hk.2, ⟨hk.1.2.2.2.2, ⟨hk.1.2.1, ⟨hk.1.2.2.1, ⟨hk.1.2.2.2.1, hk.1.1⟩⟩⟩⟩⟩)), (by (with_reducible repeat (first | apply Kd.R_alloc | apply Kd.R_drewN | apply Kd.R_drew)); exact Kd.R_mono HO520.out (fun _ hk => ⟨hk.2.2, ⟨hk.2.1, hk.1⟩⟩)), (by (with_reducible repeat (first | apply Kd.R_alloc | apply Kd.R_drewN | apply Kd.R_drew)); exact Kd.R_mono HO523.out (fun _ hk => ⟨hk.2, ⟨hk.1.2, hk.1.1⟩⟩)), (by (with_reducible repeat (first | apply Kd.N_alloc | apply Kd.N_drewN | apply Kd.N_drew)); exact Kd.N_mono HO_10.out (fun _ hk => ⟨hk.2, ⟨hk.1.2.2.2, ⟨hk.1.2.1, ⟨hk.1.2.2.1, hk.1.1⟩⟩⟩⟩)), (by (with_reducible repeat (first | apply Kd.R_alloc | apply Kd.R_drewN | apply Kd.R_drew)); exact Kd.R_mono HO_12.out (fun _ hk => ⟨hk.2, ⟨hk.1.2, hk.1.1⟩⟩)), (by (with_reducible repeat (first | apply Kd.N_alloc | apply Kd.N_drewN | apply Kd.N_drew)); exact Kd.N_mono HO_13.out (fun _ hk => ⟨hk.2, ⟨hk.1.2.2.2, ⟨hk.1.2.1, ⟨hk.1.2.2.1, hk.1.1⟩⟩⟩⟩)), (by (with_reducible repeat (first | apply Kd.R_alloc | apply Kd.R_drewN | apply Kd.R_drew)); exact Kd.R_mono HO_7.out (fun _ hk => ⟨hk.2, ⟨hk.1.2, hk.1.1⟩⟩)), (by repeat (first | (with_reducible first | exact HB.out | apply below_alloc | apply pw_below_drewN | apply below_drew1) | exact HB.out))⟩)
                                            · skip
                                              refine Kd.R_lit_step Kd.string _ 9 ?hg (N := 86) ?hd (xs := ([rdOf ByteArray.empty t507 x15_4] : List ByteArray)) (inner := [.string (rdOf ByteArray.empty t507 x15_4)]) (ok := fun _ => True) (okp := fun _ => True) ?hr ?hp (fun _ hk => hk) trivial (Below.refl _ _) (Nat.le_refl _) (by simp) ?_; (case hd => rfl); (case hg => rfl); (case hr => first | (go_simp; done) | (go_simp; rfl)); (case hp => exact (Reps.one (show Kd.M Kd.string _ _ _ (rdOf ByteArray.empty t507 x15_4) [.string (rdOf ByteArray.empty t507 x15_4)] from rfl) (Reps.none _ _)))
                                              intro v522 w44 ho45 hb hg_ hnew_
                                              have HS_ := And.intro (pw_cell_below hb hHeld.1) (pw_cell_below hb hHeld.2)
                                              clear hg_ hnew_
                                              (first | rw [← Ny521.out] at ho45 | (simp only [Int.reduceToNat] at ho45; rw [← Ny521.out] at ho45))
                                              have n0_ := Aside0.mk (Kd.R_elder' (by (with_reducible repeat (first | apply Kd.R_alloc | apply Kd.R_drewN | apply Kd.R_drew)); exact HO_7.out) (Kd.R_base ho45) hb)
                                              have n1_ := Aside0.mk (Kd.N_elder' (by (with_reducible repeat (first | apply Kd.N_alloc | apply Kd.N_drewN | apply Kd.N_drew)); exact HO_10.out) (Kd.R_base ho45) hb)
                                              have n2_ := Aside0.mk (Kd.R_elder' (by (with_reducible repeat (first | apply Kd.R_alloc | apply Kd.R_drewN | apply Kd.R_drew)); exact HO_12.out) (Kd.R_base ho45) hb)
                                              have n3_ := Aside0.mk (Kd.N_elder' (by (with_reducible repeat (first | apply Kd.N_alloc | apply Kd.N_drewN | apply Kd.N_drew)); exact HO_13.out) (Kd.R_base ho45) hb)
                                              have n4_ := Aside0.mk (Kd.V_elder' (by (with_reducible repeat (first | apply Kd.V_alloc | apply Kd.V_drewN | apply Kd.V_drew)); exact HL513_0.out) (Kd.R_base ho45) hb)
                                              have n5_ := Aside0.mk (Kd.R_lower (Kd.R_new' (Kd.R_new' ho45 (Kd.R_lt (by (with_reducible repeat (first | apply Kd.R_alloc | apply Kd.R_drewN | apply Kd.R_drew)); exact HO_7.out))) (Kd.R_lt (by (with_reducible repeat (first | apply Kd.R_alloc | apply Kd.R_drewN | apply Kd.R_drew)); exact HO_12.out))) (below_size (by repeat (first | (with_reducible first | exact HB.out | apply below_alloc | apply pw_below_drewN | apply below_drew1) | exact HB.out))))
                                              have n6_ := Aside0.mk (Kd.C_below (by repeat (first | (with_reducible exact HR513_0.out) | (with_reducible refine Kd.C_alloc ?_ _) | (with_reducible refine Kd.C_drewN ?_ _) | (with_reducible refine Kd.C_drew ?_) | exact HR513_0.out)) hb)
                                              have n7_ := Aside0.mk (below_step (by repeat (first | (with_reducible first | exact HB.out | apply below_alloc | apply pw_below_drewN | apply below_drew1) | exact HB.out)) hb)
                                              clear HO_7
                                              clear HO_10
                                              clear HO_12
                                              clear HO_13
                                              clear HL513_0
                                              clear HR513_0
                                              clear HB
                                              have HO_7 := n0_
                                              have HO_10 := n1_
                                              have HO_12 := n2_
                                              have HO_13 := n3_
                                              have HL513_0 := n4_
                                              have HO523 := n5_
                                              have HR513_0 := n6_
                                              have HB := n7_
                                              clear n0_ n1_ n2_ n3_ n4_ n5_ n6_ n7_
                                              clear hb ho45
                                              refine hK.out _ _ HS_ (fun hHeld => ?_)
                                              clear hK K
                                              refine norm_ (a' := ?_) ?_ ?_
                                              rotate_left
                                              · show Act.put _ (some 86) _ = _
                                                simp only [Act.put, List.setIfInBounds_toArray, List.set_cons_zero, List.set_cons_succ, i64_w, i32_w]
                                                rfl
                                              refine one_ (i := 1) (N := some 76) #[true, true, true, true, true, true, false, true, true, true, true, true, false, false, false, false] rfl rfl (one_of HT_.out (by kernel_rfl)) (by decide) (fun K hK => ?_)
                                              refine Kd.R_lit_step Kd.string _ 9 ?hg (N := 76) ?hd (xs := ([] : List ByteArray)) (inner := []) (ok := fun _ => True) (okp := fun _ => True) ?hr ?hp (fun _ hk => hk) trivial (Below.refl _ _) (Nat.le_refl _) (by simp) ?_; (case hd => rfl); (case hg => rfl); (case hr => first | (go_simp; done) | (go_simp; rfl)); (case hp => exact (Reps.none _ _))
                                              intro v516 w46 ho47 hb hg_ hnew_
                                              have HS_ := And.intro (pw_cell_below hb hHeld.1) (pw_cell_below hb hHeld.2)
                                              clear hg_ hnew_
                                              (first | rw [← Ny515.out] at ho47 | (simp only [Int.reduceToNat] at ho47; rw [← Ny515.out] at ho47))
                                              have n0_ := Aside0.mk (Kd.R_elder' (by (with_reducible repeat (first | apply Kd.R_alloc | apply Kd.R_drewN | apply Kd.R_drew)); exact HO_7.out) (Kd.R_base ho47) hb)
                                              have n1_ := Aside0.mk (Kd.N_elder' (by (with_reducible repeat (first | apply Kd.N_alloc | apply Kd.N_drewN | apply Kd.N_drew)); exact HO_10.out) (Kd.R_base ho47) hb)
                                              have n2_ := Aside0.mk (Kd.R_elder' (by (with_reducible repeat (first | apply Kd.R_alloc | apply Kd.R_drewN | apply Kd.R_drew)); exact HO_12.out) (Kd.R_base ho47) hb)
                                              have n3_ := Aside0.mk (Kd.N_elder' (by (with_reducible repeat (first | apply Kd.N_alloc | apply Kd.N_drewN | apply Kd.N_drew)); exact HO_13.out) (Kd.R_base ho47) hb)
                                              have n4_ := Aside0.mk (Kd.V_elder' (by (with_reducible repeat (first | apply Kd.V_alloc | apply Kd.V_drewN | apply Kd.V_drew)); exact HL513_0.out) (Kd.R_base ho47) hb)
                                              have n5_ := Aside0.mk (Kd.R_elder' (by (with_reducible repeat (first | apply Kd.R_alloc | apply Kd.R_drewN | apply Kd.R_drew)); exact HO523.out) (Kd.R_base ho47) hb)
                                              have n6_ := Aside0.mk (Kd.R_lower (Kd.R_new' (Kd.R_new' (Kd.R_new' ho47 (Kd.R_lt (by (with_reducible repeat (first | apply Kd.R_alloc | apply Kd.R_drewN | apply Kd.R_drew)); exact HO_7.out))) (Kd.R_lt (by (with_reducible repeat (first | apply Kd.R_alloc | apply Kd.R_drewN | apply Kd.R_drew)); exact HO_12.out))) (Kd.R_lt (by (with_reducible repeat (first | apply Kd.R_alloc | apply Kd.R_drewN | apply Kd.R_drew)); exact HO523.out))) (below_size (by repeat (first | (with_reducible first | exact HB.out | apply below_alloc | apply pw_below_drewN | apply below_drew1) | exact HB.out))))
                                              have n7_ := Aside0.mk (Kd.C_below (by repeat (first | (with_reducible exact HR513_0.out) | (with_reducible refine Kd.C_alloc ?_ _) | (with_reducible refine Kd.C_drewN ?_ _) | (with_reducible refine Kd.C_drew ?_) | exact HR513_0.out)) hb)
                                              have n8_ := Aside0.mk (below_step (by repeat (first | (with_reducible first | exact HB.out | apply below_alloc | apply pw_below_drewN | apply below_drew1) | exact HB.out)) hb)
                                              clear HO_7
                                              clear HO_10
                                              clear HO_12
                                              clear HO_13
                                              clear HL513_0
                                              clear HO523
                                              clear HR513_0
                                              clear HB
                                              have HO_7 := n0_
                                              have HO_10 := n1_
                                              have HO_12 := n2_
                                              have HO_13 := n3_
                                              have HL513_0 := n4_
                                              have HO523 := n5_
                                              have HO517 := n6_
                                              have HR513_0 := n7_
                                              have HB := n8_
                                              clear n0_ n1_ n2_ n3_ n4_ n5_ n6_ n7_ n8_
                                              clear hb ho47
                                              refine hK.out _ _ HS_ (fun hHeld => ?_)
                                              clear hK K
                                              refine norm_ (a' := ?_) ?_ ?_
                                              rotate_left
                                              · show Act.put _ (some 76) _ = _
                                                simp only [Act.put, List.setIfInBounds_toArray, List.set_cons_zero, List.set_cons_succ, i64_w, i32_w]
                                                rfl
                                              refine one_ (i := 6) (N := some 81) #[true, true, true, true, true, true, true, true, true, true, true, true, false, false, false, false] rfl rfl (one_of HT_.out (by kernel_rfl)) (by decide) (fun K hK => ?_)
                                              refine Kd.R_append_rows_step Kd.string (w0 := w) w.heap.size (by rfl) (.tmp 76) (.tmp 80) 37 9 (.string ⟨#[]⟩) 16 rfl Tryd.underlying37 info9 rfl (by decide) (by omega) v516 y515 (rd_L9 x10_2 x14_3) _ _ _ (fun k_ => some k_ ≠ (.slice (some ad506) t490.length co20 : Value).ownBlock ∧ some k_ ≠ (.slice (some ad514) t507.length co41 : Value).ownBlock ∧ some k_ ≠ (v522 : Value).ownBlock) (fun _ => False) rfl rfl ?aO ?aR (fun _ _ h => h) (fun _ h => h.elim) ?aF ?aB ?aS ?aL ?_
                                              (case aR => repeat (first | exact (by repeat (first | (with_reducible exact HR513_0.out) | (with_reducible refine Kd.C_alloc ?_ _) | (with_reducible refine Kd.C_drewN ?_ _) | (with_reducible refine Kd.C_drew ?_) | exact HR513_0.out)) | (with_reducible refine Kd.C_alloc ?_ _) | (with_reducible refine Kd.C_drewN ?_ _) | (with_reducible refine Kd.C_drew ?_)))
                                              (case aB => exact (by repeat (first | (with_reducible first | exact HB.out | apply below_alloc | apply pw_below_drewN | apply below_drew1) | exact HB.out)))
                                              (case aF => exact (fun k_ hk => ⟨Kd.fresh' (Kd.R_lt (by (with_reducible repeat (first | apply Kd.R_alloc | apply Kd.R_drewN | apply Kd.R_drew)); exact HO_7.out)) k_ hk, Kd.fresh' (Kd.R_lt (by (with_reducible repeat (first | apply Kd.R_alloc | apply Kd.R_drewN | apply Kd.R_drew)); exact HO_12.out)) k_ hk, Kd.fresh' (Kd.R_lt (by (with_reducible repeat (first | apply Kd.R_alloc | apply Kd.R_drewN | apply Kd.R_drew)); exact HO523.out)) k_ hk⟩))
                                              (case aO => exact (by (with_reducible repeat (first | apply Kd.R_alloc | apply Kd.R_drewN | apply Kd.R_drew)); exact Kd.R_mono HO517.out (fun _ hk => ⟨hk.1.1.2, ⟨hk.1.2, hk.2⟩⟩)))
                                              (case aS => exact (below_size (by repeat (first | (with_reducible first | exact HB.out | apply below_alloc | apply pw_below_drewN | apply below_drew1) | exact HB.out))))
                                              (case aL => have := LMc38.out; omega)
                                              intro v519 w48 ho hb hg hat
                                              have HS_ := And.intro (cell_grown hg hHeld.1 (by rw [add_block]; have h_ := HO_10.out.1 _ rfl; first | exact h_ | exact h_.1 | exact h_.2 | exact h_.1.1 | exact h_.1.2 | exact h_.2.1 | exact h_.2.2 | exact h_.1.1.1 | exact h_.1.1.2 | exact h_.1.2.1 | exact h_.1.2.2 | exact h_.2.1.1 | exact h_.2.1.2 | exact h_.2.2.1 | exact h_.2.2.2 | exact h_.1.1.1.1 | exact h_.1.1.1.2 | exact h_.1.1.2.1 | exact h_.1.1.2.2 | exact h_.1.2.1.1 | exact h_.1.2.1.2 | exact h_.1.2.2.1 | exact h_.1.2.2.2 | exact h_.2.1.1.1 | exact h_.2.1.1.2 | exact h_.2.1.2.1 | exact h_.2.1.2.2 | exact h_.2.2.1.1 | exact h_.2.2.1.2 | exact h_.2.2.2.1 | exact h_.2.2.2.2 | exact h_.1.1.1.1.1 | exact h_.1.1.1.1.2 | exact h_.1.1.1.2.1 | exact h_.1.1.1.2.2 | exact h_.1.1.2.1.1 | exact h_.1.1.2.1.2 | exact h_.1.1.2.2.1 | exact h_.1.1.2.2.2 | exact h_.1.2.1.1.1 | exact h_.1.2.1.1.2 | exact h_.1.2.1.2.1 | exact h_.1.2.1.2.2 | exact h_.1.2.2.1.1 | exact h_.1.2.2.1.2 | exact h_.1.2.2.2.1 | exact h_.1.2.2.2.2 | exact h_.2.1.1.1.1 | exact h_.2.1.1.1.2 | exact h_.2.1.1.2.1 | exact h_.2.1.1.2.2 | exact h_.2.1.2.1.1 | exact h_.2.1.2.1.2 | exact h_.2.1.2.2.1 | exact h_.2.1.2.2.2 | exact h_.2.2.1.1.1 | exact h_.2.2.1.1.2 | exact h_.2.2.1.2.1 | exact h_.2.2.1.2.2 | exact h_.2.2.2.1.1 | exact h_.2.2.2.1.2 | exact h_.2.2.2.2.1 | exact h_.2.2.2.2.2 | exact (fun e_ => by have g_ := HO_13.out.1 _ e_.symm; first | exact g_ rfl | exact g_.1 rfl | exact g_.2 rfl | exact g_.1.1 rfl | exact g_.1.2 rfl | exact g_.2.1 rfl | exact g_.2.2 rfl | exact g_.1.1.1 rfl | exact g_.1.1.2 rfl | exact g_.1.2.1 rfl | exact g_.1.2.2 rfl | exact g_.2.1.1 rfl | exact g_.2.1.2 rfl | exact g_.2.2.1 rfl | exact g_.2.2.2 rfl | exact g_.1.1.1.1 rfl | exact g_.1.1.1.2 rfl | exact g_.1.1.2.1 rfl | exact g_.1.1.2.2 rfl | exact g_.1.2.1.1 rfl | exact g_.1.2.1.2 rfl | exact g_.1.2.2.1 rfl | exact g_.1.2.2.2 rfl | exact g_.2.1.1.1 rfl | exact g_.2.1.1.2 rfl | exact g_.2.1.2.1 rfl | exact g_.2.1.2.2 rfl | exact g_.2.2.1.1 rfl | exact g_.2.2.1.2 rfl | exact g_.2.2.2.1 rfl | exact g_.2.2.2.2 rfl | exact g_.1.1.1.1.1 rfl | exact g_.1.1.1.1.2 rfl | exact g_.1.1.1.2.1 rfl | exact g_.1.1.1.2.2 rfl | exact g_.1.1.2.1.1 rfl | exact g_.1.1.2.1.2 rfl | exact g_.1.1.2.2.1 rfl | exact g_.1.1.2.2.2 rfl | exact g_.1.2.1.1.1 rfl | exact g_.1.2.1.1.2 rfl | exact g_.1.2.1.2.1 rfl | exact g_.1.2.1.2.2 rfl | exact g_.1.2.2.1.1 rfl | exact g_.1.2.2.1.2 rfl | exact g_.1.2.2.2.1 rfl | exact g_.1.2.2.2.2 rfl | exact g_.2.1.1.1.1 rfl | exact g_.2.1.1.1.2 rfl | exact g_.2.1.1.2.1 rfl | exact g_.2.1.1.2.2 rfl | exact g_.2.1.2.1.1 rfl | exact g_.2.1.2.1.2 rfl | exact g_.2.1.2.2.1 rfl | exact g_.2.1.2.2.2 rfl | exact g_.2.2.1.1.1 rfl | exact g_.2.2.1.1.2 rfl | exact g_.2.2.1.2.1 rfl | exact g_.2.2.1.2.2 rfl | exact g_.2.2.2.1.1 rfl | exact g_.2.2.2.1.2 rfl | exact g_.2.2.2.2.1 rfl | exact g_.2.2.2.2.2 rfl))) (cell_grown hg hHeld.2 (by rw [add_block]; have h_ := HO_12.out.1 _ rfl; first | exact h_ | exact h_.1 | exact h_.2 | exact h_.1.1 | exact h_.1.2 | exact h_.2.1 | exact h_.2.2 | exact h_.1.1.1 | exact h_.1.1.2 | exact h_.1.2.1 | exact h_.1.2.2 | exact h_.2.1.1 | exact h_.2.1.2 | exact h_.2.2.1 | exact h_.2.2.2 | exact h_.1.1.1.1 | exact h_.1.1.1.2 | exact h_.1.1.2.1 | exact h_.1.1.2.2 | exact h_.1.2.1.1 | exact h_.1.2.1.2 | exact h_.1.2.2.1 | exact h_.1.2.2.2 | exact h_.2.1.1.1 | exact h_.2.1.1.2 | exact h_.2.1.2.1 | exact h_.2.1.2.2 | exact h_.2.2.1.1 | exact h_.2.2.1.2 | exact h_.2.2.2.1 | exact h_.2.2.2.2 | exact h_.1.1.1.1.1 | exact h_.1.1.1.1.2 | exact h_.1.1.1.2.1 | exact h_.1.1.1.2.2 | exact h_.1.1.2.1.1 | exact h_.1.1.2.1.2 | exact h_.1.1.2.2.1 | exact h_.1.1.2.2.2 | exact h_.1.2.1.1.1 | exact h_.1.2.1.1.2 | exact h_.1.2.1.2.1 | exact h_.1.2.1.2.2 | exact h_.1.2.2.1.1 | exact h_.1.2.2.1.2 | exact h_.1.2.2.2.1 | exact h_.1.2.2.2.2 | exact h_.2.1.1.1.1 | exact h_.2.1.1.1.2 | exact h_.2.1.1.2.1 | exact h_.2.1.1.2.2 | exact h_.2.1.2.1.1 | exact h_.2.1.2.1.2 | exact h_.2.1.2.2.1 | exact h_.2.1.2.2.2 | exact h_.2.2.1.1.1 | exact h_.2.2.1.1.2 | exact h_.2.2.1.2.1 | exact h_.2.2.1.2.2 | exact h_.2.2.2.1.1 | exact h_.2.2.2.1.2 | exact h_.2.2.2.2.1 | exact h_.2.2.2.2.2 | exact (fun e_ => by have g_ := HO_13.out.1 _ e_.symm; first | exact g_ rfl | exact g_.1 rfl | exact g_.2 rfl | exact g_.1.1 rfl | exact g_.1.2 rfl | exact g_.2.1 rfl | exact g_.2.2 rfl | exact g_.1.1.1 rfl | exact g_.1.1.2 rfl | exact g_.1.2.1 rfl | exact g_.1.2.2 rfl | exact g_.2.1.1 rfl | exact g_.2.1.2 rfl | exact g_.2.2.1 rfl | exact g_.2.2.2 rfl | exact g_.1.1.1.1 rfl | exact g_.1.1.1.2 rfl | exact g_.1.1.2.1 rfl | exact g_.1.1.2.2 rfl | exact g_.1.2.1.1 rfl | exact g_.1.2.1.2 rfl | exact g_.1.2.2.1 rfl | exact g_.1.2.2.2 rfl | exact g_.2.1.1.1 rfl | exact g_.2.1.1.2 rfl | exact g_.2.1.2.1 rfl | exact g_.2.1.2.2 rfl | exact g_.2.2.1.1 rfl | exact g_.2.2.1.2 rfl | exact g_.2.2.2.1 rfl | exact g_.2.2.2.2 rfl | exact g_.1.1.1.1.1 rfl | exact g_.1.1.1.1.2 rfl | exact g_.1.1.1.2.1 rfl | exact g_.1.1.1.2.2 rfl | exact g_.1.1.2.1.1 rfl | exact g_.1.1.2.1.2 rfl | exact g_.1.1.2.2.1 rfl | exact g_.1.1.2.2.2 rfl | exact g_.1.2.1.1.1 rfl | exact g_.1.2.1.1.2 rfl | exact g_.1.2.1.2.1 rfl | exact g_.1.2.1.2.2 rfl | exact g_.1.2.2.1.1 rfl | exact g_.1.2.2.1.2 rfl | exact g_.1.2.2.2.1 rfl | exact g_.1.2.2.2.2 rfl | exact g_.2.1.1.1.1 rfl | exact g_.2.1.1.1.2 rfl | exact g_.2.1.1.2.1 rfl | exact g_.2.1.1.2.2 rfl | exact g_.2.1.2.1.1 rfl | exact g_.2.1.2.1.2 rfl | exact g_.2.1.2.2.1 rfl | exact g_.2.1.2.2.2 rfl | exact g_.2.2.1.1.1 rfl | exact g_.2.2.1.1.2 rfl | exact g_.2.2.1.2.1 rfl | exact g_.2.2.1.2.2 rfl | exact g_.2.2.2.1.1 rfl | exact g_.2.2.2.1.2 rfl | exact g_.2.2.2.2.1 rfl | exact g_.2.2.2.2.2 rfl)))
                                              rw [← Ny518.out] at ho
                                              have n0_ := Aside0.mk (Kd.R_after (ok := (fun k_ => some k_ ≠ (.slice (some ad514) t507.length co41 : Value).ownBlock ∧ some k_ ≠ (v522 : Value).ownBlock)) (by (with_reducible repeat (first | apply Kd.R_alloc | apply Kd.R_drewN | apply Kd.R_drew)); exact HO_7.out) hg hat)
                                              have n1_ := Aside0.mk (Kd.N_afterv (ok := (fun k_ => some k_ ≠ (.slice (some ad506) t490.length co20 : Value).ownBlock ∧ some k_ ≠ (.slice (some ad514) t507.length co41 : Value).ownBlock ∧ some k_ ≠ (.slice Ao42 x13_4.length co42 : Value).ownBlock ∧ some k_ ≠ (v522 : Value).ownBlock)) (by (with_reducible repeat (first | apply Kd.N_alloc | apply Kd.N_drewN | apply Kd.N_drew)); exact Kd.N_mono HO_10.out (fun _ hk => ⟨⟨hk.1.1.1, ⟨hk.1.1.2.1, ⟨hk.1.1.2.2, hk.1.2⟩⟩⟩, hk.2⟩)) hg hat)
                                              have n2_ := Aside0.mk (Kd.R_after (ok := (fun k_ => some k_ ≠ (.slice (some ad506) t490.length co20 : Value).ownBlock ∧ some k_ ≠ (v522 : Value).ownBlock)) (by (with_reducible repeat (first | apply Kd.R_alloc | apply Kd.R_drewN | apply Kd.R_drew)); exact HO_12.out) hg hat)
                                              have n3_ := Aside0.mk (Kd.N_afterv (ok := (fun k_ => some k_ ≠ (.slice (some ad506) t490.length co20 : Value).ownBlock ∧ some k_ ≠ (.slice (some ad513) x10_2.length co33 : Value).ownBlock ∧ some k_ ≠ (.slice (some ad514) t507.length co41 : Value).ownBlock ∧ some k_ ≠ (v522 : Value).ownBlock)) (by (with_reducible repeat (first | apply Kd.N_alloc | apply Kd.N_drewN | apply Kd.N_drew)); exact Kd.N_mono HO_13.out (fun _ hk => ⟨⟨hk.1.1.1, ⟨hk.1.1.2.1, ⟨hk.1.1.2.2, hk.1.2⟩⟩⟩, hk.2⟩)) hg hat)
                                              have n4_ := Aside0.mk (Kd.V_afterv (ok := (fun k_ => some k_ ≠ (.slice (some ad506) t490.length co20 : Value).ownBlock ∧ some k_ ≠ (.slice (some ad513) x10_2.length co33 : Value).ownBlock ∧ some k_ ≠ (.slice (some ad514) t507.length co41 : Value).ownBlock ∧ some k_ ≠ (.slice Ao42 x13_4.length co42 : Value).ownBlock ∧ some k_ ≠ (v522 : Value).ownBlock)) (by (with_reducible repeat (first | apply Kd.V_alloc | apply Kd.V_drewN | apply Kd.V_drew)); exact Kd.V_mono HL513_0.out (fun _ hk => ⟨⟨hk.1.1.1.1, ⟨hk.1.1.2, ⟨hk.1.1.1.2.1, ⟨hk.1.1.1.2.2, hk.1.2⟩⟩⟩⟩, hk.2⟩)) hg hat)
                                              have n5_ := Aside0.mk (Kd.R_after (ok := (fun k_ => some k_ ≠ (.slice (some ad506) t490.length co20 : Value).ownBlock ∧ some k_ ≠ (.slice (some ad514) t507.length co41 : Value).ownBlock)) (by (with_reducible repeat (first | apply Kd.R_alloc | apply Kd.R_drewN | apply Kd.R_drew)); exact Kd.R_mono HO523.out (fun _ hk => ⟨⟨hk.1.1.2, hk.1.2⟩, hk.2⟩)) hg hat)
                                              have n6_ := Aside0.mk (hb)
                                              have n7_ := Aside0.mk (ho)
                                              clear HO_7
                                              clear HO_10
                                              clear HO_12
                                              clear HO_13
                                              clear HL513_0
                                              clear HO523
                                              clear HB
                                              clear HO517
                                              have HO_7 := n0_
                                              have HO_10 := n1_
                                              have HO_12 := n2_
                                              have HO_13 := n3_
                                              have HL513_0 := n4_
                                              have HO523 := n5_
                                              have HB := n6_
                                              have HO520 := n7_
                                              clear n0_ n1_ n2_ n3_ n4_ n5_ n6_ n7_
                                              clear ho hb hg hat
                                              refine hK.out _ _ HS_ (fun hHeld => ?_)
                                              clear hK K
                                              refine norm_ (a' := ?_) ?_ ?_
                                              rotate_left
                                              · show Act.put _ (some 81) _ = _
                                                simp only [Act.put, List.setIfInBounds_toArray, List.set_cons_zero, List.set_cons_succ, i64_w, i32_w]
                                                rfl
                                              exact norm_ (by simp only [putAll, Act.put, List.setIfInBounds_toArray, List.set_cons_zero, List.set_cons_succ]) (hCont (v516, v519, v522) _ ⟨hHeld, (by (with_reducible repeat (first | apply Kd.V_alloc | apply Kd.V_drewN | apply Kd.V_drew)); exact Kd.V_mono HL513_0.out (fun _ hk => ⟨hk.2, ⟨hk.1.2.2.2.2, ⟨hk.1.2.1, ⟨hk.1.2.2.1, ⟨hk.1.2.2.2.1, hk.1.1⟩⟩⟩⟩⟩)), (by (with_reducible repeat (first | apply Kd.R_alloc | apply Kd.R_drewN | apply Kd.R_drew)); exact Kd.R_mono HO520.out (fun _ hk => ⟨hk.2.2, ⟨hk.2.1, hk.1⟩⟩)), (by (with_reducible repeat (first | apply Kd.R_alloc | apply Kd.R_drewN | apply Kd.R_drew)); exact Kd.R_mono HO523.out (fun _ hk => ⟨hk.2, ⟨hk.1.2, hk.1.1⟩⟩)), (by (with_reducible repeat (first | apply Kd.N_alloc | apply Kd.N_drewN | apply Kd.N_drew)); exact Kd.N_mono HO_10.out (fun _ hk => ⟨hk.2, ⟨hk.1.2.2.2, ⟨hk.1.2.1, ⟨hk.1.2.2.1, hk.1.1⟩⟩⟩⟩)), (by (with_reducible repeat (first | apply Kd.R_alloc | apply Kd.R_drewN | apply Kd.R_drew)); exact Kd.R_mono HO_12.out (fun _ hk => ⟨hk.2, ⟨hk.1.2, hk.1.1⟩⟩)), (by (with_reducible repeat (first | apply Kd.N_alloc | apply Kd.N_drewN | apply Kd.N_drew)); exact Kd.N_mono HO_13.out (fun _ hk => ⟨hk.2, ⟨hk.1.2.2.2, ⟨hk.1.2.1, ⟨hk.1.2.2.1, hk.1.1⟩⟩⟩⟩)), (by (with_reducible repeat (first | apply Kd.R_alloc | apply Kd.R_drewN | apply Kd.R_drew)); exact Kd.R_mono HO_7.out (fun _ hk => ⟨hk.2, ⟨hk.1.2, hk.1.1⟩⟩)), (by repeat (first | (with_reducible first | exact HB.out | apply below_alloc | apply pw_below_drewN | apply below_drew1) | exact HB.out))⟩)
                                          rintro ⟨v516, v519, v522⟩ w49 ⟨hS_, h0_, h1_, h2_, h3_, h4_, h5_, h6_, h7_⟩
                                          have n0_ : Aside0 (Kd.V Kd.string 9 w49 w.heap.size (fun k_ => some k_ ≠ (v519 : Value).ownBlock ∧ some k_ ≠ (v522 : Value).ownBlock ∧ some k_ ≠ (.slice (some ad513) x10_2.length co33 : Value).ownBlock ∧ some k_ ≠ (.slice (some ad514) t507.length co41 : Value).ownBlock ∧ some k_ ≠ (.slice Ao42 x13_4.length co42 : Value).ownBlock ∧ some k_ ≠ (.slice (some ad506) t490.length co20 : Value).ownBlock) (.slice A513_0 (rd_L9 x10_2 x14_3).length c513_0) (rd_L9 x10_2 x14_3)) := ⟨h0_⟩
                                          have n1_ : Aside0 (Kd.R Kd.string 9 w49 w.heap.size (fun k_ => some k_ ≠ (v522 : Value).ownBlock ∧ some k_ ≠ (.slice (some ad514) t507.length co41 : Value).ownBlock ∧ some k_ ≠ (.slice (some ad506) t490.length co20 : Value).ownBlock) v519 y518) := ⟨h1_⟩
                                          have n2_ : Aside0 (Kd.R Kd.string 9 w49 w.heap.size (fun k_ => some k_ ≠ (v519 : Value).ownBlock ∧ some k_ ≠ (.slice (some ad514) t507.length co41 : Value).ownBlock ∧ some k_ ≠ (.slice (some ad506) t490.length co20 : Value).ownBlock) v522 y521) := ⟨h2_⟩
                                          have n3_ : Aside0 (Kd.N (Kd.slice 9 Kd.string) 37 w49 w.heap.size (fun k_ => some k_ ≠ (v519 : Value).ownBlock ∧ some k_ ≠ (v522 : Value).ownBlock ∧ some k_ ≠ (.slice (some ad514) t507.length co41 : Value).ownBlock ∧ some k_ ≠ (.slice Ao42 x13_4.length co42 : Value).ownBlock ∧ some k_ ≠ (.slice (some ad506) t490.length co20 : Value).ownBlock) (.slice (some ad513) x10_2.length co33) x10_2) := ⟨h3_⟩
                                          have n4_ : Aside0 (Kd.R Kd.string 9 w49 w.heap.size (fun k_ => some k_ ≠ (v519 : Value).ownBlock ∧ some k_ ≠ (v522 : Value).ownBlock ∧ some k_ ≠ (.slice (some ad506) t490.length co20 : Value).ownBlock) (.slice (some ad514) t507.length co41) t507) := ⟨h4_⟩
                                          have n5_ : Aside0 (Kd.N (Kd.slice 9 Kd.string) 37 w49 w.heap.size (fun k_ => some k_ ≠ (v519 : Value).ownBlock ∧ some k_ ≠ (v522 : Value).ownBlock ∧ some k_ ≠ (.slice (some ad513) x10_2.length co33 : Value).ownBlock ∧ some k_ ≠ (.slice (some ad514) t507.length co41 : Value).ownBlock ∧ some k_ ≠ (.slice (some ad506) t490.length co20 : Value).ownBlock) (.slice Ao42 x13_4.length co42) x13_4) := ⟨h5_⟩
                                          have n6_ : Aside0 (Kd.R Kd.string 9 w49 w.heap.size (fun k_ => some k_ ≠ (v519 : Value).ownBlock ∧ some k_ ≠ (v522 : Value).ownBlock ∧ some k_ ≠ (.slice (some ad514) t507.length co41 : Value).ownBlock) (.slice (some ad506) t490.length co20) t490) := ⟨h6_⟩
                                          have n7_ : Aside0 (Below w.heap.size w w49) := ⟨h7_⟩
                                          clear HO_7
                                          clear HO_10
                                          clear HO_12
                                          clear HO_13
                                          clear HL513_0
                                          clear HR513_0
                                          clear HB
                                          clear h0_ h1_ h2_ h3_ h4_ h5_ h6_ h7_
                                          have HL513_0 := n0_
                                          have HO520 := n1_
                                          have HO523 := n2_
                                          have HO_10 := n3_
                                          have HO_12 := n4_
                                          have HO_13 := n5_
                                          have HO_7 := n6_
                                          have HB := n7_
                                          clear n0_ n1_ n2_ n3_ n4_ n5_ n6_ n7_
                                          have hHeld := hS_
                                          obtain ⟨Ao51, co51, eo51⟩ := Kd.R_slice HO523.out
                                          (first | subst eo51 | (injection eo51 with f1_ f2_ f3_; have f4_ := f1_.symm; have f5_ := f3_.symm; clear f1_ f2_ f3_; subst f4_; subst f5_))
                                          refine norm_ (a' := ?_) ?_ ?_
                                          rotate_left
                                          · simp only [putAll, Act.put, List.setIfInBounds_toArray, List.set_cons_zero, List.set_cons_succ]
                                            rfl
                                          refine one_ (i := 12) (N := some 87) #[true, true, true, true, true, true, true, true, true, true, true, true, true, false, false, false] rfl rfl (one_of HT_.out (by kernel_rfl)) (by decide) (fun K hK => ?_)
                                          refine Kd.R_append_rows_step Kd.string (w0 := w) w.heap.size (by rfl) (.tmp 81) (.tmp 86) 37 9 (.string ⟨#[]⟩) 16 rfl Tryd.underlying37 info9 rfl (by decide) (by omega) v519 y518 y521 _ _ _ (fun k_ => some k_ ≠ (.slice (some ad506) t490.length co20 : Value).ownBlock ∧ some k_ ≠ (.slice (some ad514) t507.length co41 : Value).ownBlock ∧ some k_ ≠ (.slice Ao51 y521.length co51 : Value).ownBlock) (fun _ => False) rfl rfl ?aO ?aR (fun _ _ h => h) (fun _ h => h.elim) ?aF ?aB ?aS ?aL ?_
                                          (case aR => repeat (first | exact (Kd.R_reads' HO523.out).2.2 | (with_reducible refine Kd.C_alloc ?_ _) | (with_reducible refine Kd.C_drewN ?_ _) | (with_reducible refine Kd.C_drew ?_)))
                                          (case aB => exact (by repeat (first | (with_reducible first | exact HB.out | apply below_alloc | apply pw_below_drewN | apply below_drew1) | exact HB.out)))
                                          (case aF => exact (fun k_ hk => ⟨Kd.fresh' (Kd.R_lt (by (with_reducible repeat (first | apply Kd.R_alloc | apply Kd.R_drewN | apply Kd.R_drew)); exact HO_7.out)) k_ hk, Kd.fresh' (Kd.R_lt (by (with_reducible repeat (first | apply Kd.R_alloc | apply Kd.R_drewN | apply Kd.R_drew)); exact HO_12.out)) k_ hk, Kd.fresh' (Kd.R_lt (by (with_reducible repeat (first | apply Kd.R_alloc | apply Kd.R_drewN | apply Kd.R_drew)); exact HO523.out)) k_ hk⟩))
                                          (case aO => exact (by (with_reducible repeat (first | apply Kd.R_alloc | apply Kd.R_drewN | apply Kd.R_drew)); exact Kd.R_mono HO520.out (fun _ hk => ⟨hk.2.2, ⟨hk.2.1, hk.1⟩⟩)))
                                          (case aS => exact (below_size (by repeat (first | (with_reducible first | exact HB.out | apply below_alloc | apply pw_below_drewN | apply below_drew1) | exact HB.out))))
                                          (case aL => have := LMc39.out; omega)
                                          intro v525 w50 ho hb hg hat
                                          have HS_ := And.intro (cell_grown hg hHeld.1 (by rw [add_block]; have h_ := HO_10.out.1 _ rfl; first | exact h_ | exact h_.1 | exact h_.2 | exact h_.1.1 | exact h_.1.2 | exact h_.2.1 | exact h_.2.2 | exact h_.1.1.1 | exact h_.1.1.2 | exact h_.1.2.1 | exact h_.1.2.2 | exact h_.2.1.1 | exact h_.2.1.2 | exact h_.2.2.1 | exact h_.2.2.2 | exact h_.1.1.1.1 | exact h_.1.1.1.2 | exact h_.1.1.2.1 | exact h_.1.1.2.2 | exact h_.1.2.1.1 | exact h_.1.2.1.2 | exact h_.1.2.2.1 | exact h_.1.2.2.2 | exact h_.2.1.1.1 | exact h_.2.1.1.2 | exact h_.2.1.2.1 | exact h_.2.1.2.2 | exact h_.2.2.1.1 | exact h_.2.2.1.2 | exact h_.2.2.2.1 | exact h_.2.2.2.2 | exact h_.1.1.1.1.1 | exact h_.1.1.1.1.2 | exact h_.1.1.1.2.1 | exact h_.1.1.1.2.2 | exact h_.1.1.2.1.1 | exact h_.1.1.2.1.2 | exact h_.1.1.2.2.1 | exact h_.1.1.2.2.2 | exact h_.1.2.1.1.1 | exact h_.1.2.1.1.2 | exact h_.1.2.1.2.1 | exact h_.1.2.1.2.2 | exact h_.1.2.2.1.1 | exact h_.1.2.2.1.2 | exact h_.1.2.2.2.1 | exact h_.1.2.2.2.2 | exact h_.2.1.1.1.1 | exact h_.2.1.1.1.2 | exact h_.2.1.1.2.1 | exact h_.2.1.1.2.2 | exact h_.2.1.2.1.1 | exact h_.2.1.2.1.2 | exact h_.2.1.2.2.1 | exact h_.2.1.2.2.2 | exact h_.2.2.1.1.1 | exact h_.2.2.1.1.2 | exact h_.2.2.1.2.1 | exact h_.2.2.1.2.2 | exact h_.2.2.2.1.1 | exact h_.2.2.2.1.2 | exact h_.2.2.2.2.1 | exact h_.2.2.2.2.2 | exact (fun e_ => by have g_ := HO_13.out.1 _ e_.symm; first | exact g_ rfl | exact g_.1 rfl | exact g_.2 rfl | exact g_.1.1 rfl | exact g_.1.2 rfl | exact g_.2.1 rfl | exact g_.2.2 rfl | exact g_.1.1.1 rfl | exact g_.1.1.2 rfl | exact g_.1.2.1 rfl | exact g_.1.2.2 rfl | exact g_.2.1.1 rfl | exact g_.2.1.2 rfl | exact g_.2.2.1 rfl | exact g_.2.2.2 rfl | exact g_.1.1.1.1 rfl | exact g_.1.1.1.2 rfl | exact g_.1.1.2.1 rfl | exact g_.1.1.2.2 rfl | exact g_.1.2.1.1 rfl | exact g_.1.2.1.2 rfl | exact g_.1.2.2.1 rfl | exact g_.1.2.2.2 rfl | exact g_.2.1.1.1 rfl | exact g_.2.1.1.2 rfl | exact g_.2.1.2.1 rfl | exact g_.2.1.2.2 rfl | exact g_.2.2.1.1 rfl | exact g_.2.2.1.2 rfl | exact g_.2.2.2.1 rfl | exact g_.2.2.2.2 rfl | exact g_.1.1.1.1.1 rfl | exact g_.1.1.1.1.2 rfl | exact g_.1.1.1.2.1 rfl | exact g_.1.1.1.2.2 rfl | exact g_.1.1.2.1.1 rfl | exact g_.1.1.2.1.2 rfl | exact g_.1.1.2.2.1 rfl | exact g_.1.1.2.2.2 rfl | exact g_.1.2.1.1.1 rfl | exact g_.1.2.1.1.2 rfl | exact g_.1.2.1.2.1 rfl | exact g_.1.2.1.2.2 rfl | exact g_.1.2.2.1.1 rfl | exact g_.1.2.2.1.2 rfl | exact g_.1.2.2.2.1 rfl | exact g_.1.2.2.2.2 rfl | exact g_.2.1.1.1.1 rfl | exact g_.2.1.1.1.2 rfl | exact g_.2.1.1.2.1 rfl | exact g_.2.1.1.2.2 rfl | exact g_.2.1.2.1.1 rfl | exact g_.2.1.2.1.2 rfl | exact g_.2.1.2.2.1 rfl | exact g_.2.1.2.2.2 rfl | exact g_.2.2.1.1.1 rfl | exact g_.2.2.1.1.2 rfl | exact g_.2.2.1.2.1 rfl | exact g_.2.2.1.2.2 rfl | exact g_.2.2.2.1.1 rfl | exact g_.2.2.2.1.2 rfl | exact g_.2.2.2.2.1 rfl | exact g_.2.2.2.2.2 rfl))) (cell_grown hg hHeld.2 (by rw [add_block]; have h_ := HO_12.out.1 _ rfl; first | exact h_ | exact h_.1 | exact h_.2 | exact h_.1.1 | exact h_.1.2 | exact h_.2.1 | exact h_.2.2 | exact h_.1.1.1 | exact h_.1.1.2 | exact h_.1.2.1 | exact h_.1.2.2 | exact h_.2.1.1 | exact h_.2.1.2 | exact h_.2.2.1 | exact h_.2.2.2 | exact h_.1.1.1.1 | exact h_.1.1.1.2 | exact h_.1.1.2.1 | exact h_.1.1.2.2 | exact h_.1.2.1.1 | exact h_.1.2.1.2 | exact h_.1.2.2.1 | exact h_.1.2.2.2 | exact h_.2.1.1.1 | exact h_.2.1.1.2 | exact h_.2.1.2.1 | exact h_.2.1.2.2 | exact h_.2.2.1.1 | exact h_.2.2.1.2 | exact h_.2.2.2.1 | exact h_.2.2.2.2 | exact h_.1.1.1.1.1 | exact h_.1.1.1.1.2 | exact h_.1.1.1.2.1 | exact h_.1.1.1.2.2 | exact h_.1.1.2.1.1 | exact h_.1.1.2.1.2 | exact h_.1.1.2.2.1 | exact h_.1.1.2.2.2 | exact h_.1.2.1.1.1 | exact h_.1.2.1.1.2 | exact h_.1.2.1.2.1 | exact h_.1.2.1.2.2 | exact h_.1.2.2.1.1 | exact h_.1.2.2.1.2 | exact h_.1.2.2.2.1 | exact h_.1.2.2.2.2 | exact h_.2.1.1.1.1 | exact h_.2.1.1.1.2 | exact h_.2.1.1.2.1 | exact h_.2.1.1.2.2 | exact h_.2.1.2.1.1 | exact h_.2.1.2.1.2 | exact h_.2.1.2.2.1 | exact h_.2.1.2.2.2 | exact h_.2.2.1.1.1 | exact h_.2.2.1.1.2 | exact h_.2.2.1.2.1 | exact h_.2.2.1.2.2 | exact h_.2.2.2.1.1 | exact h_.2.2.2.1.2 | exact h_.2.2.2.2.1 | exact h_.2.2.2.2.2 | exact (fun e_ => by have g_ := HO_13.out.1 _ e_.symm; first | exact g_ rfl | exact g_.1 rfl | exact g_.2 rfl | exact g_.1.1 rfl | exact g_.1.2 rfl | exact g_.2.1 rfl | exact g_.2.2 rfl | exact g_.1.1.1 rfl | exact g_.1.1.2 rfl | exact g_.1.2.1 rfl | exact g_.1.2.2 rfl | exact g_.2.1.1 rfl | exact g_.2.1.2 rfl | exact g_.2.2.1 rfl | exact g_.2.2.2 rfl | exact g_.1.1.1.1 rfl | exact g_.1.1.1.2 rfl | exact g_.1.1.2.1 rfl | exact g_.1.1.2.2 rfl | exact g_.1.2.1.1 rfl | exact g_.1.2.1.2 rfl | exact g_.1.2.2.1 rfl | exact g_.1.2.2.2 rfl | exact g_.2.1.1.1 rfl | exact g_.2.1.1.2 rfl | exact g_.2.1.2.1 rfl | exact g_.2.1.2.2 rfl | exact g_.2.2.1.1 rfl | exact g_.2.2.1.2 rfl | exact g_.2.2.2.1 rfl | exact g_.2.2.2.2 rfl | exact g_.1.1.1.1.1 rfl | exact g_.1.1.1.1.2 rfl | exact g_.1.1.1.2.1 rfl | exact g_.1.1.1.2.2 rfl | exact g_.1.1.2.1.1 rfl | exact g_.1.1.2.1.2 rfl | exact g_.1.1.2.2.1 rfl | exact g_.1.1.2.2.2 rfl | exact g_.1.2.1.1.1 rfl | exact g_.1.2.1.1.2 rfl | exact g_.1.2.1.2.1 rfl | exact g_.1.2.1.2.2 rfl | exact g_.1.2.2.1.1 rfl | exact g_.1.2.2.1.2 rfl | exact g_.1.2.2.2.1 rfl | exact g_.1.2.2.2.2 rfl | exact g_.2.1.1.1.1 rfl | exact g_.2.1.1.1.2 rfl | exact g_.2.1.1.2.1 rfl | exact g_.2.1.1.2.2 rfl | exact g_.2.1.2.1.1 rfl | exact g_.2.1.2.1.2 rfl | exact g_.2.1.2.2.1 rfl | exact g_.2.1.2.2.2 rfl | exact g_.2.2.1.1.1 rfl | exact g_.2.2.1.1.2 rfl | exact g_.2.2.1.2.1 rfl | exact g_.2.2.1.2.2 rfl | exact g_.2.2.2.1.1 rfl | exact g_.2.2.2.1.2 rfl | exact g_.2.2.2.2.1 rfl | exact g_.2.2.2.2.2 rfl)))
                                          rw [← Ny524.out] at ho
                                          have n0_ := Aside0.mk (Kd.R_after (ok := (fun k_ => some k_ ≠ (.slice (some ad514) t507.length co41 : Value).ownBlock ∧ some k_ ≠ (.slice Ao51 y521.length co51 : Value).ownBlock)) (by (with_reducible repeat (first | apply Kd.R_alloc | apply Kd.R_drewN | apply Kd.R_drew)); exact Kd.R_mono HO_7.out (fun _ hk => ⟨⟨hk.2.2, hk.2.1⟩, hk.1⟩)) hg hat)
                                          have n1_ := Aside0.mk (Kd.N_afterv (ok := (fun k_ => some k_ ≠ (.slice (some ad506) t490.length co20 : Value).ownBlock ∧ some k_ ≠ (.slice (some ad514) t507.length co41 : Value).ownBlock ∧ some k_ ≠ (.slice Ao42 x13_4.length co42 : Value).ownBlock ∧ some k_ ≠ (.slice Ao51 y521.length co51 : Value).ownBlock)) (by (with_reducible repeat (first | apply Kd.N_alloc | apply Kd.N_drewN | apply Kd.N_drew)); exact Kd.N_mono HO_10.out (fun _ hk => ⟨⟨hk.2.2.2.2, ⟨hk.2.2.1, ⟨hk.2.2.2.1, hk.2.1⟩⟩⟩, hk.1⟩)) hg hat)
                                          have n2_ := Aside0.mk (Kd.R_after (ok := (fun k_ => some k_ ≠ (.slice (some ad506) t490.length co20 : Value).ownBlock ∧ some k_ ≠ (.slice Ao51 y521.length co51 : Value).ownBlock)) (by (with_reducible repeat (first | apply Kd.R_alloc | apply Kd.R_drewN | apply Kd.R_drew)); exact Kd.R_mono HO_12.out (fun _ hk => ⟨⟨hk.2.2, hk.2.1⟩, hk.1⟩)) hg hat)
                                          have n3_ := Aside0.mk (Kd.N_afterv (ok := (fun k_ => some k_ ≠ (.slice (some ad506) t490.length co20 : Value).ownBlock ∧ some k_ ≠ (.slice (some ad513) x10_2.length co33 : Value).ownBlock ∧ some k_ ≠ (.slice (some ad514) t507.length co41 : Value).ownBlock ∧ some k_ ≠ (.slice Ao51 y521.length co51 : Value).ownBlock)) (by (with_reducible repeat (first | apply Kd.N_alloc | apply Kd.N_drewN | apply Kd.N_drew)); exact Kd.N_mono HO_13.out (fun _ hk => ⟨⟨hk.2.2.2.2, ⟨hk.2.2.1, ⟨hk.2.2.2.1, hk.2.1⟩⟩⟩, hk.1⟩)) hg hat)
                                          have n4_ := Aside0.mk (Kd.V_afterv (ok := (fun k_ => some k_ ≠ (.slice (some ad506) t490.length co20 : Value).ownBlock ∧ some k_ ≠ (.slice (some ad513) x10_2.length co33 : Value).ownBlock ∧ some k_ ≠ (.slice (some ad514) t507.length co41 : Value).ownBlock ∧ some k_ ≠ (.slice Ao42 x13_4.length co42 : Value).ownBlock ∧ some k_ ≠ (.slice Ao51 y521.length co51 : Value).ownBlock)) (by (with_reducible repeat (first | apply Kd.V_alloc | apply Kd.V_drewN | apply Kd.V_drew)); exact Kd.V_mono HL513_0.out (fun _ hk => ⟨⟨hk.2.2.2.2.2, ⟨hk.2.2.1, ⟨hk.2.2.2.1, ⟨hk.2.2.2.2.1, hk.2.1⟩⟩⟩⟩, hk.1⟩)) hg hat)
                                          have n5_ := Aside0.mk (Kd.R_after (ok := (fun k_ => some k_ ≠ (.slice (some ad506) t490.length co20 : Value).ownBlock ∧ some k_ ≠ (.slice (some ad514) t507.length co41 : Value).ownBlock)) (by (with_reducible repeat (first | apply Kd.R_alloc | apply Kd.R_drewN | apply Kd.R_drew)); exact Kd.R_mono HO523.out (fun _ hk => ⟨⟨hk.2.2, hk.2.1⟩, hk.1⟩)) hg hat)
                                          have n6_ := Aside0.mk (hb)
                                          have n7_ := Aside0.mk (ho)
                                          clear HO_7
                                          clear HO_10
                                          clear HO_12
                                          clear HO_13
                                          clear HL513_0
                                          clear HO523
                                          clear HB
                                          clear HO520
                                          have HO_7 := n0_
                                          have HO_10 := n1_
                                          have HO_12 := n2_
                                          have HO_13 := n3_
                                          have HL513_0 := n4_
                                          have HO523 := n5_
                                          have HB := n6_
                                          have HO526 := n7_
                                          clear n0_ n1_ n2_ n3_ n4_ n5_ n6_ n7_
                                          clear ho hb hg hat
                                          obtain ⟨Ao52, co52, eo52⟩ := Kd.R_slice HO526.out
                                          (first | subst eo52 | (injection eo52 with f1_ f2_ f3_; have f4_ := f1_.symm; have f5_ := f3_.symm; clear f1_ f2_ f3_; subst f4_; subst f5_))
                                          refine hK.out _ _ HS_ (fun hHeld => ?_)
                                          clear hK K
                                          refine norm_ (a' := ?_) ?_ ?_
                                          rotate_left
                                          · show Act.put _ (some 87) _ = _
                                            simp only [Act.put, List.setIfInBounds_toArray, List.set_cons_zero, List.set_cons_succ, i64_w, i32_w]
                                            rfl
                                          refine one_ (i := 13) (N := some 88) #[true, true, true, true, true, true, true, true, true, true, true, true, true, true, false, false] rfl rfl (one_of HT_.out (by kernel_rfl)) (by decide) (fun K hK => ?_)
                                          refine Kd.N_lit_step (Kd.slice 9 Kd.string) _ 37 ?hg (N' := 88) ?hd (xs := ([y524] : List (List ByteArray))) (inner := [.slice Ao52 y524.length co52]) (ok := (fun k_ => some k_ ≠ (.slice (some ad506) t490.length co20 : Value).ownBlock ∧ some k_ ≠ (.slice (some ad513) x10_2.length co33 : Value).ownBlock ∧ some k_ ≠ (.slice (some ad514) t507.length co41 : Value).ownBlock ∧ some k_ ≠ (.slice Ao42 x13_4.length co42 : Value).ownBlock ∧ some k_ ≠ (.slice Ao51 y521.length co51 : Value).ownBlock)) (okp := (fun k_ => some k_ ≠ (.slice (some ad506) t490.length co20 : Value).ownBlock ∧ some k_ ≠ (.slice (some ad513) x10_2.length co33 : Value).ownBlock ∧ some k_ ≠ (.slice (some ad514) t507.length co41 : Value).ownBlock ∧ some k_ ≠ (.slice Ao42 x13_4.length co42 : Value).ownBlock ∧ some k_ ≠ (.slice Ao51 y521.length co51 : Value).ownBlock)) ?hr ?hp (fun _ hk => hk) ((show ∀ k_, w50.heap.size ≤ k_ → (fun k_ => some k_ ≠ (.slice (some ad506) t490.length co20 : Value).ownBlock ∧ some k_ ≠ (.slice (some ad513) x10_2.length co33 : Value).ownBlock ∧ some k_ ≠ (.slice (some ad514) t507.length co41 : Value).ownBlock ∧ some k_ ≠ (.slice Ao42 x13_4.length co42 : Value).ownBlock ∧ some k_ ≠ (.slice Ao51 y521.length co51 : Value).ownBlock) k_ from fun k_ hk => ⟨Kd.fresh' (Kd.R_lt (by (with_reducible repeat (first | apply Kd.R_alloc | apply Kd.R_drewN | apply Kd.R_drew)); exact HO_7.out)) k_ hk, Kd.fresh' (Kd.N_lt (by (with_reducible repeat (first | apply Kd.N_alloc | apply Kd.N_drewN | apply Kd.N_drew)); exact HO_10.out)) k_ hk, Kd.fresh' (Kd.R_lt (by (with_reducible repeat (first | apply Kd.R_alloc | apply Kd.R_drewN | apply Kd.R_drew)); exact HO_12.out)) k_ hk, Kd.fresh' (Kd.N_lt (by (with_reducible repeat (first | apply Kd.N_alloc | apply Kd.N_drewN | apply Kd.N_drew)); exact HO_13.out)) k_ hk, Kd.fresh' (Kd.R_lt (by (with_reducible repeat (first | apply Kd.R_alloc | apply Kd.R_drewN | apply Kd.R_drew)); exact HO523.out)) k_ hk⟩) _ (Nat.le_refl _)) (Below.refl _ _) (Nat.le_refl _) (by simp) ?_; (case hd => rfl); (case hg => rfl); (case hr => first | (go_simp; done) | (go_simp; rfl)); (case hp => exact (Reps.one (show Kd.FK (Kd.slice 9 Kd.string) _ _ y524 [.slice Ao52 y524.length co52] from (Kd.FK_slice_mk (Kd.R_reads' (Kd.R_mono (ok' := (fun k_ => some k_ ≠ (.slice (some ad506) t490.length co20 : Value).ownBlock ∧ some k_ ≠ (.slice (some ad513) x10_2.length co33 : Value).ownBlock ∧ some k_ ≠ (.slice (some ad514) t507.length co41 : Value).ownBlock ∧ some k_ ≠ (.slice Ao42 x13_4.length co42 : Value).ownBlock ∧ some k_ ≠ (.slice Ao51 y521.length co51 : Value).ownBlock)) (Kd.R_apart' (Kd.R_apart' (HO526.out) (Kd.N_typed HO_10.out) (by decide)) (Kd.N_typed HO_13.out) (by decide)) (fun k_ hk => ⟨hk.1.1.1, ⟨hk.1.2, ⟨hk.1.1.2.1, ⟨hk.2, hk.1.1.2.2⟩⟩⟩⟩))).2.1 (Kd.R_F (Kd.R_mono (ok' := (fun k_ => some k_ ≠ (.slice (some ad506) t490.length co20 : Value).ownBlock ∧ some k_ ≠ (.slice (some ad513) x10_2.length co33 : Value).ownBlock ∧ some k_ ≠ (.slice (some ad514) t507.length co41 : Value).ownBlock ∧ some k_ ≠ (.slice Ao42 x13_4.length co42 : Value).ownBlock ∧ some k_ ≠ (.slice Ao51 y521.length co51 : Value).ownBlock)) (Kd.R_apart' (Kd.R_apart' (HO526.out) (Kd.N_typed HO_10.out) (by decide)) (Kd.N_typed HO_13.out) (by decide)) (fun k_ hk => ⟨hk.1.1.1, ⟨hk.1.2, ⟨hk.1.1.2.1, ⟨hk.2, hk.1.1.2.2⟩⟩⟩⟩))))) (Reps.none _ _)))
                                          intro v528 w53 ho54 hb hg_ hnew_
                                          have HS_ := And.intro (pw_cell_below hb hHeld.1) (pw_cell_below hb hHeld.2)
                                          clear hg_ hnew_
                                          (first | rw [← Ny527.out] at ho54 | (simp only [Int.reduceToNat] at ho54; rw [← Ny527.out] at ho54))
                                          have n0_ := Aside0.mk (Kd.R_below (by (with_reducible repeat (first | apply Kd.R_alloc | apply Kd.R_drewN | apply Kd.R_drew)); exact HO_7.out) hb)
                                          have n1_ := Aside0.mk (Kd.N_elder' (by (with_reducible repeat (first | apply Kd.N_alloc | apply Kd.N_drewN | apply Kd.N_drew)); exact HO_10.out) (Kd.N_base ho54) hb)
                                          have n2_ := Aside0.mk (Kd.R_below (by (with_reducible repeat (first | apply Kd.R_alloc | apply Kd.R_drewN | apply Kd.R_drew)); exact HO_12.out) hb)
                                          have n3_ := Aside0.mk (Kd.N_elder' (by (with_reducible repeat (first | apply Kd.N_alloc | apply Kd.N_drewN | apply Kd.N_drew)); exact HO_13.out) (Kd.N_base ho54) hb)
                                          have n4_ := Aside0.mk (Kd.V_elder' (by (with_reducible repeat (first | apply Kd.V_alloc | apply Kd.V_drewN | apply Kd.V_drew)); exact HL513_0.out) (Kd.N_base ho54) hb)
                                          have n5_ := Aside0.mk (Kd.R_below (by (with_reducible repeat (first | apply Kd.R_alloc | apply Kd.R_drewN | apply Kd.R_drew)); exact HO523.out) hb)
                                          have n6_ := Aside0.mk (Kd.N_lower ho54 (below_size (by repeat (first | (with_reducible first | exact HB.out | apply below_alloc | apply pw_below_drewN | apply below_drew1) | exact HB.out))))
                                          have n7_ := Aside0.mk (below_step (by repeat (first | (with_reducible first | exact HB.out | apply below_alloc | apply pw_below_drewN | apply below_drew1) | exact HB.out)) hb)
                                          clear HO_7
                                          clear HO_10
                                          clear HO_12
                                          clear HO_13
                                          clear HL513_0
                                          clear HO523
                                          clear HB
                                          clear HO526
                                          have HO_7 := n0_
                                          have HO_10 := n1_
                                          have HO_12 := n2_
                                          have HO_13 := n3_
                                          have HL513_0 := n4_
                                          have HO523 := n5_
                                          have HO529 := n6_
                                          have HB := n7_
                                          clear n0_ n1_ n2_ n3_ n4_ n5_ n6_ n7_
                                          clear hb ho54
                                          obtain ⟨Ao56, co56, eo56⟩ := Kd.N_slice HO529.out
                                          (first | subst eo56 | (injection eo56 with f1_ f2_ f3_; have f4_ := f1_.symm; have f5_ := f3_.symm; clear f1_ f2_ f3_; subst f4_; subst f5_))
                                          refine hK.out _ _ HS_ (fun hHeld => ?_)
                                          clear hK K
                                          refine norm_ (a' := ?_) ?_ ?_
                                          rotate_left
                                          · show Act.put _ (some 88) _ = _
                                            simp only [Act.put, List.setIfInBounds_toArray, List.set_cons_zero, List.set_cons_succ, i64_w, i32_w]
                                            rfl
                                          refine one_ (i := 14) (N := some 89) #[true, true, true, true, true, true, true, true, true, true, true, true, true, true, true, false] rfl rfl (one_of HT_.out (by kernel_rfl)) (by decide) (fun K hK => ?_)
                                          refine Kd.N_append_rows_step (Kd.slice 9 Kd.string) (w0 := w) w.heap.size (by rfl) (.tmp 75) (.tmp 88) 68 37 (.slice none 0 0) 24 rfl Tryd.underlying68 info37 rfl (by decide) (by omega) (.slice Ao42 x13_4.length co42) x13_4 y527 _ _ _ (fun k_ => some k_ ≠ (.slice (some ad506) t490.length co20 : Value).ownBlock ∧ some k_ ≠ (.slice (some ad513) x10_2.length co33 : Value).ownBlock ∧ some k_ ≠ (.slice (some ad514) t507.length co41 : Value).ownBlock ∧ some k_ ≠ (.slice Ao51 y521.length co51 : Value).ownBlock) (fun k_ => ((fun k_ => some k_ ≠ (.slice (some ad506) t490.length co20 : Value).ownBlock ∧ some k_ ≠ (.slice (some ad513) x10_2.length co33 : Value).ownBlock ∧ some k_ ≠ (.slice (some ad514) t507.length co41 : Value).ownBlock ∧ some k_ ≠ (.slice Ao51 y521.length co51 : Value).ownBlock)) k_ ∧ some k_ ≠ (.slice Ao42 x13_4.length co42 : Value).ownBlock) rfl rfl ?aO ?aR (fun _ hk => hk) ?aF ?aB ?aS ?aL ?_
                                          (case aR => exact (by skip; exact Kd.N_F (Kd.N_mono (ok' := (fun k_ => ((fun k_ => some k_ ≠ (.slice (some ad506) t490.length co20 : Value).ownBlock ∧ some k_ ≠ (.slice (some ad513) x10_2.length co33 : Value).ownBlock ∧ some k_ ≠ (.slice (some ad514) t507.length co41 : Value).ownBlock ∧ some k_ ≠ (.slice Ao51 y521.length co51 : Value).ownBlock)) k_ ∧ some k_ ≠ (.slice Ao42 x13_4.length co42 : Value).ownBlock)) (HO529.out) (fun k_ hk => ⟨⟨hk.1, ⟨hk.2.1, ⟨hk.2.2.1, hk.2.2.2.2⟩⟩⟩, hk.2.2.2.1⟩))))
                                          (case aB => exact (by repeat (first | (with_reducible first | exact HB.out | apply below_alloc | apply pw_below_drewN | apply below_drew1) | exact HB.out)))
                                          (case aF => exact (fun k_ hk => ⟨Kd.fresh' (Kd.R_lt (by (with_reducible repeat (first | apply Kd.R_alloc | apply Kd.R_drewN | apply Kd.R_drew)); exact HO_7.out)) k_ hk, Kd.fresh' (Kd.N_lt (by (with_reducible repeat (first | apply Kd.N_alloc | apply Kd.N_drewN | apply Kd.N_drew)); exact HO_10.out)) k_ hk, Kd.fresh' (Kd.R_lt (by (with_reducible repeat (first | apply Kd.R_alloc | apply Kd.R_drewN | apply Kd.R_drew)); exact HO_12.out)) k_ hk, Kd.fresh' (Kd.R_lt (by (with_reducible repeat (first | apply Kd.R_alloc | apply Kd.R_drewN | apply Kd.R_drew)); exact HO523.out)) k_ hk⟩))
                                          (case aO => exact (by (with_reducible repeat (first | apply Kd.N_alloc | apply Kd.N_drewN | apply Kd.N_drew)); exact Kd.N_mono HO_13.out (fun _ hk => ⟨hk.1.1.1, ⟨hk.1.1.2.1, ⟨hk.1.1.2.2.1, hk.1.1.2.2.2⟩⟩⟩)))
                                          (case aS => exact (below_size (by repeat (first | (with_reducible first | exact HB.out | apply below_alloc | apply pw_below_drewN | apply below_drew1) | exact HB.out))))
                                          (case aL => have := LMc40.out; omega)
                                          intro v531 w55 ho hb hg hat
                                          have HS_ := And.intro (cell_grown hg hHeld.1 (by rw [add_block]; have h_ := HO_10.out.1 _ rfl; first | exact h_ | exact h_.1 | exact h_.2 | exact h_.1.1 | exact h_.1.2 | exact h_.2.1 | exact h_.2.2 | exact h_.1.1.1 | exact h_.1.1.2 | exact h_.1.2.1 | exact h_.1.2.2 | exact h_.2.1.1 | exact h_.2.1.2 | exact h_.2.2.1 | exact h_.2.2.2 | exact h_.1.1.1.1 | exact h_.1.1.1.2 | exact h_.1.1.2.1 | exact h_.1.1.2.2 | exact h_.1.2.1.1 | exact h_.1.2.1.2 | exact h_.1.2.2.1 | exact h_.1.2.2.2 | exact h_.2.1.1.1 | exact h_.2.1.1.2 | exact h_.2.1.2.1 | exact h_.2.1.2.2 | exact h_.2.2.1.1 | exact h_.2.2.1.2 | exact h_.2.2.2.1 | exact h_.2.2.2.2 | exact h_.1.1.1.1.1 | exact h_.1.1.1.1.2 | exact h_.1.1.1.2.1 | exact h_.1.1.1.2.2 | exact h_.1.1.2.1.1 | exact h_.1.1.2.1.2 | exact h_.1.1.2.2.1 | exact h_.1.1.2.2.2 | exact h_.1.2.1.1.1 | exact h_.1.2.1.1.2 | exact h_.1.2.1.2.1 | exact h_.1.2.1.2.2 | exact h_.1.2.2.1.1 | exact h_.1.2.2.1.2 | exact h_.1.2.2.2.1 | exact h_.1.2.2.2.2 | exact h_.2.1.1.1.1 | exact h_.2.1.1.1.2 | exact h_.2.1.1.2.1 | exact h_.2.1.1.2.2 | exact h_.2.1.2.1.1 | exact h_.2.1.2.1.2 | exact h_.2.1.2.2.1 | exact h_.2.1.2.2.2 | exact h_.2.2.1.1.1 | exact h_.2.2.1.1.2 | exact h_.2.2.1.2.1 | exact h_.2.2.1.2.2 | exact h_.2.2.2.1.1 | exact h_.2.2.2.1.2 | exact h_.2.2.2.2.1 | exact h_.2.2.2.2.2 | exact (fun e_ => by have g_ := HO_13.out.1 _ e_.symm; first | exact g_ rfl | exact g_.1 rfl | exact g_.2 rfl | exact g_.1.1 rfl | exact g_.1.2 rfl | exact g_.2.1 rfl | exact g_.2.2 rfl | exact g_.1.1.1 rfl | exact g_.1.1.2 rfl | exact g_.1.2.1 rfl | exact g_.1.2.2 rfl | exact g_.2.1.1 rfl | exact g_.2.1.2 rfl | exact g_.2.2.1 rfl | exact g_.2.2.2 rfl | exact g_.1.1.1.1 rfl | exact g_.1.1.1.2 rfl | exact g_.1.1.2.1 rfl | exact g_.1.1.2.2 rfl | exact g_.1.2.1.1 rfl | exact g_.1.2.1.2 rfl | exact g_.1.2.2.1 rfl | exact g_.1.2.2.2 rfl | exact g_.2.1.1.1 rfl | exact g_.2.1.1.2 rfl | exact g_.2.1.2.1 rfl | exact g_.2.1.2.2 rfl | exact g_.2.2.1.1 rfl | exact g_.2.2.1.2 rfl | exact g_.2.2.2.1 rfl | exact g_.2.2.2.2 rfl | exact g_.1.1.1.1.1 rfl | exact g_.1.1.1.1.2 rfl | exact g_.1.1.1.2.1 rfl | exact g_.1.1.1.2.2 rfl | exact g_.1.1.2.1.1 rfl | exact g_.1.1.2.1.2 rfl | exact g_.1.1.2.2.1 rfl | exact g_.1.1.2.2.2 rfl | exact g_.1.2.1.1.1 rfl | exact g_.1.2.1.1.2 rfl | exact g_.1.2.1.2.1 rfl | exact g_.1.2.1.2.2 rfl | exact g_.1.2.2.1.1 rfl | exact g_.1.2.2.1.2 rfl | exact g_.1.2.2.2.1 rfl | exact g_.1.2.2.2.2 rfl | exact g_.2.1.1.1.1 rfl | exact g_.2.1.1.1.2 rfl | exact g_.2.1.1.2.1 rfl | exact g_.2.1.1.2.2 rfl | exact g_.2.1.2.1.1 rfl | exact g_.2.1.2.1.2 rfl | exact g_.2.1.2.2.1 rfl | exact g_.2.1.2.2.2 rfl | exact g_.2.2.1.1.1 rfl | exact g_.2.2.1.1.2 rfl | exact g_.2.2.1.2.1 rfl | exact g_.2.2.1.2.2 rfl | exact g_.2.2.2.1.1 rfl | exact g_.2.2.2.1.2 rfl | exact g_.2.2.2.2.1 rfl | exact g_.2.2.2.2.2 rfl))) (cell_grown hg hHeld.2 (by rw [add_block]; have h_ := HO_12.out.1 _ rfl; first | exact h_ | exact h_.1 | exact h_.2 | exact h_.1.1 | exact h_.1.2 | exact h_.2.1 | exact h_.2.2 | exact h_.1.1.1 | exact h_.1.1.2 | exact h_.1.2.1 | exact h_.1.2.2 | exact h_.2.1.1 | exact h_.2.1.2 | exact h_.2.2.1 | exact h_.2.2.2 | exact h_.1.1.1.1 | exact h_.1.1.1.2 | exact h_.1.1.2.1 | exact h_.1.1.2.2 | exact h_.1.2.1.1 | exact h_.1.2.1.2 | exact h_.1.2.2.1 | exact h_.1.2.2.2 | exact h_.2.1.1.1 | exact h_.2.1.1.2 | exact h_.2.1.2.1 | exact h_.2.1.2.2 | exact h_.2.2.1.1 | exact h_.2.2.1.2 | exact h_.2.2.2.1 | exact h_.2.2.2.2 | exact h_.1.1.1.1.1 | exact h_.1.1.1.1.2 | exact h_.1.1.1.2.1 | exact h_.1.1.1.2.2 | exact h_.1.1.2.1.1 | exact h_.1.1.2.1.2 | exact h_.1.1.2.2.1 | exact h_.1.1.2.2.2 | exact h_.1.2.1.1.1 | exact h_.1.2.1.1.2 | exact h_.1.2.1.2.1 | exact h_.1.2.1.2.2 | exact h_.1.2.2.1.1 | exact h_.1.2.2.1.2 | exact h_.1.2.2.2.1 | exact h_.1.2.2.2.2 | exact h_.2.1.1.1.1 | exact h_.2.1.1.1.2 | exact h_.2.1.1.2.1 | exact h_.2.1.1.2.2 | exact h_.2.1.2.1.1 | exact h_.2.1.2.1.2 | exact h_.2.1.2.2.1 | exact h_.2.1.2.2.2 | exact h_.2.2.1.1.1 | exact h_.2.2.1.1.2 | exact h_.2.2.1.2.1 | exact h_.2.2.1.2.2 | exact h_.2.2.2.1.1 | exact h_.2.2.2.1.2 | exact h_.2.2.2.2.1 | exact h_.2.2.2.2.2 | exact (fun e_ => by have g_ := HO_13.out.1 _ e_.symm; first | exact g_ rfl | exact g_.1 rfl | exact g_.2 rfl | exact g_.1.1 rfl | exact g_.1.2 rfl | exact g_.2.1 rfl | exact g_.2.2 rfl | exact g_.1.1.1 rfl | exact g_.1.1.2 rfl | exact g_.1.2.1 rfl | exact g_.1.2.2 rfl | exact g_.2.1.1 rfl | exact g_.2.1.2 rfl | exact g_.2.2.1 rfl | exact g_.2.2.2 rfl | exact g_.1.1.1.1 rfl | exact g_.1.1.1.2 rfl | exact g_.1.1.2.1 rfl | exact g_.1.1.2.2 rfl | exact g_.1.2.1.1 rfl | exact g_.1.2.1.2 rfl | exact g_.1.2.2.1 rfl | exact g_.1.2.2.2 rfl | exact g_.2.1.1.1 rfl | exact g_.2.1.1.2 rfl | exact g_.2.1.2.1 rfl | exact g_.2.1.2.2 rfl | exact g_.2.2.1.1 rfl | exact g_.2.2.1.2 rfl | exact g_.2.2.2.1 rfl | exact g_.2.2.2.2 rfl | exact g_.1.1.1.1.1 rfl | exact g_.1.1.1.1.2 rfl | exact g_.1.1.1.2.1 rfl | exact g_.1.1.1.2.2 rfl | exact g_.1.1.2.1.1 rfl | exact g_.1.1.2.1.2 rfl | exact g_.1.1.2.2.1 rfl | exact g_.1.1.2.2.2 rfl | exact g_.1.2.1.1.1 rfl | exact g_.1.2.1.1.2 rfl | exact g_.1.2.1.2.1 rfl | exact g_.1.2.1.2.2 rfl | exact g_.1.2.2.1.1 rfl | exact g_.1.2.2.1.2 rfl | exact g_.1.2.2.2.1 rfl | exact g_.1.2.2.2.2 rfl | exact g_.2.1.1.1.1 rfl | exact g_.2.1.1.1.2 rfl | exact g_.2.1.1.2.1 rfl | exact g_.2.1.1.2.2 rfl | exact g_.2.1.2.1.1 rfl | exact g_.2.1.2.1.2 rfl | exact g_.2.1.2.2.1 rfl | exact g_.2.1.2.2.2 rfl | exact g_.2.2.1.1.1 rfl | exact g_.2.2.1.1.2 rfl | exact g_.2.2.1.2.1 rfl | exact g_.2.2.1.2.2 rfl | exact g_.2.2.2.1.1 rfl | exact g_.2.2.2.1.2 rfl | exact g_.2.2.2.2.1 rfl | exact g_.2.2.2.2.2 rfl)))
                                          rw [← Ny530.out] at ho
                                          have n0_ := Aside0.mk (Kd.R_over' (by (with_reducible repeat (first | apply Kd.R_alloc | apply Kd.R_drewN | apply Kd.R_drew)); exact HO_7.out) (Kd.N_typed (by (with_reducible repeat (first | apply Kd.N_alloc | apply Kd.N_drewN | apply Kd.N_drew)); exact HO_13.out)) (by decide) hg)
                                          have n1_ := Aside0.mk (Kd.N_afterv (ok := (fun k_ => some k_ ≠ (.slice (some ad506) t490.length co20 : Value).ownBlock ∧ some k_ ≠ (.slice (some ad514) t507.length co41 : Value).ownBlock ∧ some k_ ≠ (.slice Ao51 y521.length co51 : Value).ownBlock ∧ some k_ ≠ (.slice Ao56 y527.length co56 : Value).ownBlock)) (by (with_reducible repeat (first | apply Kd.N_alloc | apply Kd.N_drewN | apply Kd.N_drew)); exact Kd.N_mono HO_10.out (fun _ hk => ⟨⟨hk.1.1.1, ⟨hk.1.1.2.1, ⟨hk.1.1.2.2.2, hk.2⟩⟩⟩, hk.1.1.2.2.1⟩)) hg hat)
                                          have n2_ := Aside0.mk (Kd.R_over' (by (with_reducible repeat (first | apply Kd.R_alloc | apply Kd.R_drewN | apply Kd.R_drew)); exact HO_12.out) (Kd.N_typed (by (with_reducible repeat (first | apply Kd.N_alloc | apply Kd.N_drewN | apply Kd.N_drew)); exact HO_13.out)) (by decide) hg)
                                          have n3_ := Aside0.mk (Kd.V_afterv (ok := (fun k_ => some k_ ≠ (.slice (some ad506) t490.length co20 : Value).ownBlock ∧ some k_ ≠ (.slice (some ad513) x10_2.length co33 : Value).ownBlock ∧ some k_ ≠ (.slice (some ad514) t507.length co41 : Value).ownBlock ∧ some k_ ≠ (.slice Ao51 y521.length co51 : Value).ownBlock ∧ some k_ ≠ (.slice Ao56 y527.length co56 : Value).ownBlock)) (by (with_reducible repeat (first | apply Kd.V_alloc | apply Kd.V_drewN | apply Kd.V_drew)); exact Kd.V_mono HL513_0.out (fun _ hk => ⟨⟨hk.1.1.1, ⟨hk.1.1.2.1, ⟨hk.1.1.2.2.1, ⟨hk.1.1.2.2.2.2, hk.2⟩⟩⟩⟩, hk.1.1.2.2.2.1⟩)) hg hat)
                                          have n4_ := Aside0.mk (Kd.R_over' (by (with_reducible repeat (first | apply Kd.R_alloc | apply Kd.R_drewN | apply Kd.R_drew)); exact HO523.out) (Kd.N_typed (by (with_reducible repeat (first | apply Kd.N_alloc | apply Kd.N_drewN | apply Kd.N_drew)); exact HO_13.out)) (by decide) hg)
                                          have n5_ := Aside0.mk (Kd.N_afterv (ok := (fun k_ => some k_ ≠ (.slice (some ad506) t490.length co20 : Value).ownBlock ∧ some k_ ≠ (.slice (some ad513) x10_2.length co33 : Value).ownBlock ∧ some k_ ≠ (.slice (some ad514) t507.length co41 : Value).ownBlock ∧ some k_ ≠ (.slice Ao51 y521.length co51 : Value).ownBlock)) (by (with_reducible repeat (first | apply Kd.N_alloc | apply Kd.N_drewN | apply Kd.N_drew)); exact Kd.N_mono HO529.out (fun _ hk => ⟨⟨hk.1, ⟨hk.2.1, ⟨hk.2.2.1, hk.2.2.2.2⟩⟩⟩, hk.2.2.2.1⟩)) hg hat)
                                          have n6_ := Aside0.mk (hb)
                                          have n7_ := Aside0.mk (ho)
                                          clear HO_7
                                          clear HO_10
                                          clear HO_12
                                          clear HL513_0
                                          clear HO523
                                          clear HO529
                                          clear HB
                                          clear HO_13
                                          have HO_7 := n0_
                                          have HO_10 := n1_
                                          have HO_12 := n2_
                                          have HL513_0 := n3_
                                          have HO523 := n4_
                                          have HO529 := n5_
                                          have HB := n6_
                                          have HO532 := n7_
                                          clear n0_ n1_ n2_ n3_ n4_ n5_ n6_ n7_
                                          clear ho hb hg hat
                                          refine hK.out _ _ HS_ (fun hHeld => ?_)
                                          clear hK K
                                          refine norm_ (a' := ?_) ?_ ?_
                                          rotate_left
                                          · show Act.put _ (some 89) _ = _
                                            simp only [Act.put, List.setIfInBounds_toArray, List.set_cons_zero, List.set_cons_succ, i64_w, i32_w]
                                            rfl
                                          refine pure_ (i := 15) (N := some 13) (v := ?_) (a' := ?_) #[true, true, true, true, true, true, true, true, true, true, true, true, true, true, true, true] rfl rfl (any_of HT_.out (by kernel_rfl)) (fun _ _ _ h => h) (Or.inl ⟨by rfl, ?_⟩) ?_ ?_
                                          rotate_left
                                          · intro w'
                                            go_simp
                                            with_reducible rfl
                                          rotate_left
                                          · simp only [Act.put, List.setIfInBounds_toArray, List.set_cons_zero, List.set_cons_succ, i64_w, i32_w]
                                            rfl
                                          refine done_ (done_of HT_.out (by kernel_rfl)) ?_
                                          try go_wp2
                                          go_roundg k4
                                          case measure => have := HK1.out; have := HK2.out; have := HK3.out; have := HK4.out; omega
                                          case rel => exact ⟨(y530), (wrap64 (x15_4 + 1)), (by first | rfl | (simp; done) | (simp [*]; done)), H', ⟨by have := HK1.out; have := HK2.out; have := HK3.out; have := HK4.out; omega⟩, ⟨by (with_reducible repeat (first | apply Kd.R_alloc | apply Kd.R_drewN | apply Kd.R_drew)); exact Kd.R_mono HO_7.out (fun _ hk => hk.1.1)⟩, ⟨by (with_reducible repeat (first | apply Kd.N_alloc | apply Kd.N_drewN | apply Kd.N_drew)); exact Kd.N_mono HO_10.out (fun _ hk => ⟨hk.1.1, ⟨hk.1.2.1, hk.2⟩⟩)⟩, ⟨by (with_reducible repeat (first | apply Kd.R_alloc | apply Kd.R_drewN | apply Kd.R_drew)); exact Kd.R_mono HO_12.out (fun _ hk => hk.1.1)⟩, ⟨by (with_reducible repeat (first | apply Kd.N_alloc | apply Kd.N_drewN | apply Kd.N_drew)); exact Kd.N_mono HO532.out (fun _ hk => ⟨hk.1, ⟨hk.2.1, hk.2.2.1⟩⟩)⟩, ⟨by repeat (first | (with_reducible first | exact HB.out | apply below_alloc | apply pw_below_drewN | apply below_drew1) | exact HB.out)⟩⟩
                                        · rw [if_neg c40] at H
                                          exact absurd H (by simp)
                                      · rw [if_neg c39] at H
                                        exact absurd H (by simp)
                                    · rw [if_neg c38] at H
                                      exact absurd H (by simp)
                                  · rw [if_neg c37] at H
                                    exact absurd H (by simp)
                                · rw [if_neg c36] at H
                                  exact absurd H (by simp)
                              · rw [if_neg c35] at H
                                exact absurd H (by simp)
                            · rw [if_neg c34] at H
                              have c34b0 : decide (x15_4 < (t507.length : Int)) = false := decide_eq_false c34
                              clear c34
                              have H' := Aside0.mk H
                              clear H
                              obtain ⟨Ao57, co57, eo57⟩ := Kd.R_slice HO_12.out
                              subst eo57
                              go_wp2
                              go_roundg k4
                              case measure => have := HK1.out; have := HK2.out; have := HK3.out; have := HK4.out; omega
                              case rel => exact ⟨(x13_4), (wrap64 (x14_3 + 1)), (by first | rfl | (simp; done) | (simp [*]; done)), H', ⟨by have := HK1.out; have := HK2.out; have := HK3.out; have := HK4.out; omega⟩, ⟨by (with_reducible repeat (first | apply Kd.R_alloc | apply Kd.R_drewN | apply Kd.R_drew)); exact HO_7.out⟩, ⟨by (with_reducible repeat (first | apply Kd.N_alloc | apply Kd.N_drewN | apply Kd.N_drew)); exact HO_10.out⟩, ⟨by (with_reducible repeat (first | apply Kd.R_alloc | apply Kd.R_drewN | apply Kd.R_drew)); exact HO_12.out⟩, ⟨by (with_reducible repeat (first | apply Kd.N_alloc | apply Kd.N_drewN | apply Kd.N_drew)); exact HO_13.out⟩, ⟨by repeat (first | (with_reducible first | exact HB.out | apply below_alloc | apply pw_below_drewN | apply below_drew1) | exact HB.out)⟩⟩
                      · rw [if_neg c32] at H
                        have c32b0 : decide (x14_3 < (x10_2.length : Int)) = false := decide_eq_false c32
                        clear c32
                        have H' := Aside0.mk H
                        clear H
                        obtain ⟨Ao58, co58, eo58⟩ := Kd.N_slice HO_10.out
                        subst eo58
                        go_wp2
                        go_roundg k3
                        case measure => have := HK1.out; have := HK2.out; have := HK3.out; omega
                        case rel => exact ⟨(x13_3), (wrap64 (x11_2 + 1)), (by first | rfl | (simp; done) | (simp [*]; done)), H', ⟨by have := HK1.out; have := HK2.out; have := HK3.out; omega⟩, ⟨by (with_reducible repeat (first | apply Kd.R_alloc | apply Kd.R_drewN | apply Kd.R_drew)); exact Kd.R_mono HO_7.out (fun _ hk => trivial)⟩, ⟨by (with_reducible repeat (first | apply Kd.N_alloc | apply Kd.N_drewN | apply Kd.N_drew)); exact Kd.N_mono HO_13.out (fun _ hk => hk.1)⟩, ⟨by repeat (first | (with_reducible first | exact HB.out | apply below_alloc | apply pw_below_drewN | apply below_drew1) | exact HB.out)⟩⟩
                · rw [if_neg c27] at H
                  exact absurd H (by simp)
              · rw [if_neg c26] at H
                have c26b0 : decide (x11_2 < (t490.length : Int)) = false := decide_eq_false c26
                clear c26
                obtain ⟨y533, hy533⟩ : ∃ y_ : List ByteArray, y_ = (([] : List ByteArray)) := ⟨_, rfl⟩
                replace H : (spec_LengthenAll.l4 k2 x10_2 y533 0) = some (r1, r2) := by first | (rw [hy533]; with_reducible exact H) | (have H2_ := (Option.bind_some _ _).symm.trans H; rw [hy533]; with_reducible exact H2_) | (have H2_ := (Option.bind_some _ _).symm.trans H; with_reducible exact H2_) | with_reducible exact H | (rw [hy533]; exact H) | exact H
                have Ny533 := Aside0.mk hy533
                clear hy533
                have H' := Aside0.mk H
                clear H
                go_wp2_with (first | ((with_reducible refine gate_dst (N := 91) rfl ?_); refine Kd.R_lit Kd.string _ 9 ?hg (N := 91) ?hd (xs := ([] : List ByteArray)) (inner := []) (ok := fun _ => True) (okp := fun _ => True) ?hr ?hp (fun _ hk => hk) trivial (Below.refl _ _) (Nat.le_refl _) (by simp) ?_; (case hd => rfl); (case hg => rfl); (case hr => first | (go_simp; done) | (go_simp; rfl)); (case hp => exact (Reps.none _ _)); intro v534 w59 ho60 hb hg_ hnew_; clear hg_ hnew_; (first | rw [← Ny533.out] at ho60 | (simp only [Int.reduceToNat] at ho60; rw [← Ny533.out] at ho60)); have n0_ := Aside0.mk (Kd.R_elder' (by (with_reducible repeat (first | apply Kd.R_alloc | apply Kd.R_drewN | apply Kd.R_drew)); exact HO_7.out) (Kd.R_base ho60) hb); have n1_ := Aside0.mk (Kd.N_elder' (by (with_reducible repeat (first | apply Kd.N_alloc | apply Kd.N_drewN | apply Kd.N_drew)); exact HO_10.out) (Kd.R_base ho60) hb); have n2_ := Aside0.mk (Kd.R_lower (Kd.R_new' ho60 (Kd.R_lt (by (with_reducible repeat (first | apply Kd.R_alloc | apply Kd.R_drewN | apply Kd.R_drew)); exact HO_7.out))) (below_size (by repeat (first | (with_reducible first | exact HB.out | apply below_alloc | apply pw_below_drewN | apply below_drew1) | exact HB.out)))); have n3_ := Aside0.mk (below_step (by repeat (first | (with_reducible first | exact HB.out | apply below_alloc | apply pw_below_drewN | apply below_drew1) | exact HB.out)) hb); clear HO_7; clear HO_10; clear HB; have HO_7 := n0_; have HO_10 := n1_; have HO535 := n2_; have HB := n3_; clear n0_ n1_ n2_ n3_; clear hb ho60))
                go_loopg [16, 17] k2 (fun kq v16 v17 w' => ∃ (x16_3 : List ByteArray) (x17_3 : Int), v17 = .int .i64 x17_3 ∧ Aside0 (spec_LengthenAll.l4 kq x10_2 x16_3 x17_3 = some (r1, r2)) ∧ Aside0 (kq ≤ k2) ∧ Aside0 (Kd.N (Kd.slice 9 Kd.string) 37 w' w.heap.size (fun k_ => some k_ ≠ (v16 : Value).ownBlock) u10 x10_2) ∧ Aside0 (Kd.R Kd.string 9 w' w.heap.size (fun _ => True) v16 x16_3) ∧ Aside0 (Below w.heap.size w w'))
                case atStart => exact ⟨(y533), (0), (by first | rfl | (simp; done) | (simp [*]; done)), H', ⟨Nat.le_refl _⟩, ⟨by (with_reducible repeat (first | apply Kd.N_alloc | apply Kd.N_drewN | apply Kd.N_drew)); exact Kd.N_mono HO_10.out (fun _ hk => hk.2)⟩, ⟨by (with_reducible repeat (first | apply Kd.R_alloc | apply Kd.R_drewN | apply Kd.R_drew)); exact Kd.R_mono HO535.out (fun _ hk => trivial)⟩, ⟨by repeat (first | (with_reducible first | exact HB.out | apply below_alloc | apply pw_below_drewN | apply below_drew1) | exact HB.out)⟩⟩
                case round =>
                  clear H'
                  try clear c2
                  try clear p2
                  try clear c3
                  try clear c4
                  try clear c5
                  try clear p5
                  try clear q5
                  try clear hx5
                  try clear p6
                  try clear c26
                  try clear c26b0
                  try clear c27
                  try clear c32
                  try clear c32b0
                  try clear c34
                  try clear c34b0
                  try clear c35
                  try clear c36
                  try clear c37
                  try clear c38
                  try clear c39
                  try clear c40
                  try clear c51
                  try clear p51
                  try clear q51
                  try clear hx51
                  try clear hx514_0
                  try clear p513
                  try clear p514
                  try clear q513
                  try clear q514
                  obtain ⟨x16_3, x17_3, rfl, HA, HK3, HO_10, HO_16, HB⟩ := hrel
                  cases gk with
                  | zero => exact absurd HA.out (by simp [spec_LengthenAll.l4])
                  | succ k3 =>
                    have H := HA.out
                    clear HA
                    simp only [spec_LengthenAll.l4] at H
                    by_cases c61 : x17_3 < (x10_2.length : Int)
                    · rw [if_pos c61] at H
                      have c61b0 : decide (x17_3 < (x10_2.length : Int)) = true := decide_eq_true c61
                      clear c61
                      by_cases c62 : 0 ≤ x17_3
                      · rw [if_pos c62] at H
                        have c62b0 : decide (0 ≤ x17_3) = true := decide_eq_true c62
                        clear c62
                        replace H := Option.bind_eq_some_iff.mp H
                        obtain ⟨t537, A630, H⟩ := H
                        replace H : ((spec_l01Text.f k3 t537).bind fun t538 => (if t538 = true then (spec_LengthenAll.l5 k3 x10_2 x16_3 x17_3 t537 0) else (spec_LengthenAll.l4 k3 x10_2 x16_3 (wrap64 (x17_3 + 1))))) = some (r1, r2) := H
                        have A63 := Aside0.mk A630
                        clear A630
                        replace H := Option.bind_eq_some_iff.mp H
                        obtain ⟨t538, A640, H⟩ := H
                        replace H : (if t538 = true then (spec_LengthenAll.l5 k3 x10_2 x16_3 x17_3 t537 0) else (spec_LengthenAll.l4 k3 x10_2 x16_3 (wrap64 (x17_3 + 1)))) = some (r1, r2) := H
                        have A64 := Aside0.mk A640
                        clear A640
                        by_cases c65 : t538 = true
                        · subst c65
                          have H1 : (spec_LengthenAll.l5 k3 x10_2 x16_3 x17_3 t537 0) = some (r1, r2) := by rw [if_pos rfl] at H; exact H
                          clear H
                          have H := H1
                          clear H1
                          have H' := Aside0.mk H
                          clear H
                          obtain ⟨Ao66, co66, eo66⟩ := Kd.N_slice HO_10.out
                          subst eo66
                          have p536 : 0 ≤ (x17_3 : Int) := of_decide_eq_true (by first | (with_reducible assumption) | assumption)
                          have q536 : x17_3 < (x10_2.length : Int) := of_decide_eq_true (by first | (with_reducible assumption) | assumption)
                          obtain ⟨ad536, A536_0, c536_0, e536, hx536_0, hl536_0, hi536_0⟩ := at_L9 (Kd.N_reads' HO_10.out).2.2 x17_3 p536 q536
                          cases e536
                          obtain ⟨ce536, hce536, hMe536, hcc536⟩ := Kd.N_get HO_10.out [] x17_3 p536 (by first | exact q536 | exact of_decide_eq_true (by first | (with_reducible assumption) | assumption) | (have e_ := (Kd.N_reads' HO_10.out).1; omega))
                          obtain ⟨ua536_0, uc536_0, rfl, ul536_0, ge536_0⟩ := Kd.FK_slice_open hMe536
                          have hv536_0 := hcc536 0 _ rfl
                          rw [Nat.add_zero, show ((Kd.slice 9 Kd.string)).sz = 1 from rfl, Nat.mul_one] at hv536_0
                          replace hv536_0 := Option.some.inj (hv536_0.symm.trans hx536_0)
                          injection hv536_0 with hva_ hvn_ hvc_
                          rw [hva_] at ge536_0
                          rw [hvc_] at ul536_0
                          have HL536_0 := Aside0.mk (show Kd.V Kd.string 9 _ w.heap.size _ _ (rd_L9 x10_2 x17_3) from Kd.V_mk ul536_0 ge536_0)
                          clear hva_ hvn_ hvc_ ge536_0 ul536_0
                          clear hcc536 hce536
                          have HR536_0 := Aside0.mk hi536_0
                          have HC536_0 := Aside0.mk hl536_0
                          clear hi536_0 hl536_0
                          replace p536 := eq_true p536
                          replace q536 := eq_true q536
                          go_wp2_with (first | ((with_reducible refine gate_callee (f := 46) rfl ?_); refine goesL_ (some 102) rfl rfl Tryd.func46 (by kernel_rfl) rfl #[.slice A536_0 (rd_L9 x10_2 x17_3).length c536_0] rfl (by (try simp only [List.map_toArray, List.map_cons, List.map_nil]); first | done | rfl | (simp only [List.length_drop, List.length_take]; rfl)) ?_; (with_reducible refine (spec_l01Joined.calls k3 _ _ (rd_L9 x10_2 x17_3) t537 _ ?side1 ?side2 A63.out).mono ?_); (case side1 => repeat (first | exact (by repeat (first | (with_reducible exact HR536_0.out) | (with_reducible refine Kd.C_alloc ?_ _) | (with_reducible refine Kd.C_drewN ?_ _) | (with_reducible refine Kd.C_drew ?_) | exact HR536_0.out)) | (with_reducible refine Kd.C_alloc ?_ _) | (with_reducible refine Kd.C_drewN ?_ _) | (with_reducible refine Kd.C_drew ?_))); (case side2 => exact HC536_0.out); rintro e w' ⟨rfl, ⟨nd, rfl⟩⟩; refine ⟨_, rfl, ?_⟩) | ((with_reducible refine gate_callee (f := 54) rfl ?_); refine goesL_ (some 104) rfl rfl Tryd.func54 (by kernel_rfl) rfl #[.string t537] rfl (by (try simp only [List.map_toArray, List.map_cons, List.map_nil]); first | done | rfl | (simp only [List.length_drop, List.length_take]; rfl)) ?_; (with_reducible refine (spec_l01Text.calls k3 t537 true _ A64.out).mono ?_); rintro e w' ⟨rfl, ⟨nd, rfl⟩⟩; refine ⟨_, rfl, ?_⟩))
                          go_loopg [19] k3 (fun kq v19 w' => ∃ (x19_4 : Int), v19 = .int .i64 x19_4 ∧ Aside0 (spec_LengthenAll.l5 kq x10_2 x16_3 x17_3 t537 x19_4 = some (r1, r2)) ∧ Aside0 (kq ≤ k3) ∧ Aside0 (Kd.N (Kd.slice 9 Kd.string) 37 w' w.heap.size (fun k_ => some k_ ≠ (u16 : Value).ownBlock) (.slice (some ad536) x10_2.length co66) x10_2) ∧ Aside0 (Kd.R Kd.string 9 w' w.heap.size (fun _ => True) u16 x16_3) ∧ Aside0 (Kd.C Kd.string w' A536_0 (rd_L9 x10_2 x17_3).length (rd_L9 x10_2 x17_3)) ∧ Aside0 (Below w.heap.size w w'))
                          case atStart => exact ⟨(0), (by first | rfl | (simp; done) | (simp [*]; done)), H', ⟨Nat.le_refl _⟩, ⟨by (with_reducible repeat (first | apply Kd.N_alloc | apply Kd.N_drewN | apply Kd.N_drew)); exact HO_10.out⟩, ⟨by (with_reducible repeat (first | apply Kd.R_alloc | apply Kd.R_drewN | apply Kd.R_drew)); exact HO_16.out⟩, ⟨by repeat (first | (with_reducible exact HR536_0.out) | (with_reducible refine Kd.C_alloc ?_ _) | (with_reducible refine Kd.C_drewN ?_ _) | (with_reducible refine Kd.C_drew ?_) | exact HR536_0.out)⟩, ⟨by repeat (first | (with_reducible first | exact HB.out | apply below_alloc | apply pw_below_drewN | apply below_drew1) | exact HB.out)⟩⟩
                          case round =>
                            clear H'
                            try clear c2
                            try clear p2
                            try clear c3
                            try clear c4
                            try clear c5
                            try clear p5
                            try clear q5
                            try clear hx5
                            try clear c6
                            try clear p6
                            try clear c26
                            try clear c26b0
                            try clear c27
                            try clear c32
                            try clear c32b0
                            try clear c34
                            try clear c34b0
                            try clear c35
                            try clear c36
                            try clear c37
                            try clear c38
                            try clear c39
                            try clear c40
                            try clear c46
                            try clear c51
                            try clear p51
                            try clear q51
                            try clear hx51
                            try clear c53
                            try clear p53
                            try clear q53
                            try clear hx53
                            try clear c54
                            try clear c61
                            try clear c61b0
                            try clear c62
                            try clear c62b0
                            try clear p64
                            try clear c65
                            try clear hx514_0
                            try clear hx536_0
                            try clear p2
                            try clear p5
                            try clear p51
                            try clear p513
                            try clear p514
                            try clear p536
                            try clear p6
                            try clear q5
                            try clear q51
                            try clear q513
                            try clear q514
                            try clear q536
                            obtain ⟨x19_4, rfl, HA, HK4, HO_10, HO_16, HR536_0, HB⟩ := hrel
                            cases gk with
                            | zero => exact absurd HA.out (by simp [spec_LengthenAll.l5])
                            | succ k4 =>
                              have H := HA.out
                              clear HA
                              simp only [spec_LengthenAll.l5] at H
                              by_cases c67 : x19_4 < (x16_3.length : Int)
                              · rw [if_pos c67] at H
                                have c67b0 : decide (x19_4 < (x16_3.length : Int)) = true := decide_eq_true c67
                                clear c67
                                by_cases c68 : 0 ≤ x19_4
                                · rw [if_pos c68] at H
                                  have c68b0 : decide (0 ≤ x19_4) = true := decide_eq_true c68
                                  clear c68
                                  by_cases c69 : (Op.bytesLess ((rdOf ByteArray.empty x16_3 x19_4).toList) t537.toList) = true
                                  · rw [if_pos c69] at H
                                    have c69b0 : (Op.bytesLess ((rdOf ByteArray.empty x16_3 x19_4).toList) t537.toList) = true := c69
                                    clear c69
                                    have H' := Aside0.mk H
                                    clear H
                                    obtain ⟨Ao70, co70, eo70⟩ := Kd.R_slice HO_16.out
                                    subst eo70
                                    have p539 : 0 ≤ (x19_4 : Int) := of_decide_eq_true (by first | (with_reducible assumption) | assumption)
                                    have q539 : x19_4 < (x16_3.length : Int) := of_decide_eq_true (by first | (with_reducible assumption) | assumption)
                                    obtain ⟨ad539, e539, hx539_0⟩ := Kd.at_string (Kd.R_reads' HO_16.out).2.2 x19_4 p539 q539
                                    cases e539
                                    replace p539 := eq_true p539
                                    replace q539 := eq_true q539
                                    go_wp2
                                    go_roundg k4
                                    case measure => have := HK1.out; have := HK2.out; have := HK3.out; have := HK4.out; omega
                                    case rel => exact ⟨(wrap64 (x19_4 + 1)), (by first | rfl | (simp; done) | (simp [*]; done)), H', ⟨by have := HK1.out; have := HK2.out; have := HK3.out; have := HK4.out; omega⟩, ⟨by (with_reducible repeat (first | apply Kd.N_alloc | apply Kd.N_drewN | apply Kd.N_drew)); exact HO_10.out⟩, ⟨by (with_reducible repeat (first | apply Kd.R_alloc | apply Kd.R_drewN | apply Kd.R_drew)); exact HO_16.out⟩, ⟨by repeat (first | (with_reducible exact HR536_0.out) | (with_reducible refine Kd.C_alloc ?_ _) | (with_reducible refine Kd.C_drewN ?_ _) | (with_reducible refine Kd.C_drew ?_) | exact HR536_0.out)⟩, ⟨by repeat (first | (with_reducible first | exact HB.out | apply below_alloc | apply pw_below_drewN | apply below_drew1) | exact HB.out)⟩⟩
                                  · rw [if_neg c69] at H
                                    have c69b0 : (Op.bytesLess ((rdOf ByteArray.empty x16_3 x19_4).toList) t537.toList) = false := by simpa using c69
                                    clear c69
                                    by_cases c71 : (rdOf ByteArray.empty x16_3 x19_4).toList = t537.toList
                                    · rw [if_pos c71] at H
                                      have c71b0 : ((rdOf ByteArray.empty x16_3 x19_4).toList == t537.toList) = true := beq_iff_eq.mpr c71
                                      have c71b1 : ((rdOf ByteArray.empty x16_3 x19_4).toList != t537.toList) = false := bne_eq_false_iff_eq.mpr c71
                                      clear c71
                                      have H' := Aside0.mk H
                                      clear H
                                      obtain ⟨Ao72, co72, eo72⟩ := Kd.R_slice HO_16.out
                                      subst eo72
                                      have p539 : 0 ≤ (x19_4 : Int) := of_decide_eq_true (by first | (with_reducible assumption) | assumption)
                                      have q539 : x19_4 < (x16_3.length : Int) := of_decide_eq_true (by first | (with_reducible assumption) | assumption)
                                      obtain ⟨ad539, e539, hx539_0⟩ := Kd.at_string (Kd.R_reads' HO_16.out).2.2 x19_4 p539 q539
                                      cases e539
                                      replace p539 := eq_true p539
                                      replace q539 := eq_true q539
                                      have p540 : 0 ≤ (x19_4 : Int) := of_decide_eq_true (by first | (with_reducible assumption) | assumption)
                                      have q540 : x19_4 < (x16_3.length : Int) := of_decide_eq_true (by first | (with_reducible assumption) | assumption)
                                      obtain ⟨ad540, e540, hx540_0⟩ := Kd.at_string (Kd.R_reads' HO_16.out).2.2 x19_4 p540 q540
                                      obtain rfl : ad539 = ad540 := (by injection e540)
                                      replace p540 := eq_true p540
                                      replace q540 := eq_true q540
                                      go_wp2
                                      go_roundg k4
                                      case measure => have := HK1.out; have := HK2.out; have := HK3.out; have := HK4.out; omega
                                      case rel => exact ⟨(x16_3), (wrap64 (x17_3 + 1)), (by first | rfl | (simp; done) | (simp [*]; done)), H', ⟨by have := HK1.out; have := HK2.out; have := HK3.out; have := HK4.out; omega⟩, ⟨by (with_reducible repeat (first | apply Kd.N_alloc | apply Kd.N_drewN | apply Kd.N_drew)); exact HO_10.out⟩, ⟨by (with_reducible repeat (first | apply Kd.R_alloc | apply Kd.R_drewN | apply Kd.R_drew)); exact HO_16.out⟩, ⟨by repeat (first | (with_reducible first | exact HB.out | apply below_alloc | apply pw_below_drewN | apply below_drew1) | exact HB.out)⟩⟩
                                    · rw [if_neg c71] at H
                                      have c71b0 : ((rdOf ByteArray.empty x16_3 x19_4).toList == t537.toList) = false := beq_eq_false_iff_ne.mpr c71
                                      have c71b1 : ((rdOf ByteArray.empty x16_3 x19_4).toList != t537.toList) = true := bne_iff_ne.mpr c71
                                      obtain ⟨y541, hy541⟩ : ∃ y_ : List ByteArray, y_ = (([] : List ByteArray)) := ⟨_, rfl⟩
                                      replace H : (if x19_4 ≤ (x16_3.length : Int) then ((some (x16_3.drop (x19_4 : Int).toNat : List ByteArray)).bind fun y544 => (if y541.length + y544.length < 8796093022208 then ((some (y541 ++ y544 : List ByteArray)).bind fun y549 => ((some (x16_3.take (x19_4 : Int).toNat : List ByteArray)).bind fun y552 => ((some (([t537] : List ByteArray) : List ByteArray)).bind fun y555 => (if y552.length + y555.length < 8796093022208 then ((some (y552 ++ y555 : List ByteArray)).bind fun y558 => (if y558.length + y549.length < 8796093022208 then (spec_LengthenAll.l4 k4 x10_2 (y558 ++ y549) (wrap64 (x17_3 + 1))) else (none))) else (none))))) else (none))) else (none)) = some (r1, r2) := by first | (rw [hy541]; with_reducible exact H) | (have H2_ := (Option.bind_some _ _).symm.trans H; rw [hy541]; with_reducible exact H2_) | (have H2_ := (Option.bind_some _ _).symm.trans H; with_reducible exact H2_) | with_reducible exact H | (rw [hy541]; exact H) | exact H
                                      have Ny541 := Aside0.mk hy541
                                      clear hy541
                                      have c73b0 := eq_true (of_decide_eq_true (by first | (with_reducible assumption) | assumption) : 0 ≤ x19_4)
                                      by_cases c74 : x19_4 ≤ (x16_3.length : Int)
                                      · rw [if_pos c74] at H
                                        have c74b0 := eq_true c74
                                        have c74b1 : decide (x19_4 ≤ (x16_3.length : Int)) = true := decide_eq_true c74
                                        clear c74
                                        obtain ⟨y544, hy544⟩ : ∃ y_ : List ByteArray, y_ = (x16_3.drop (x19_4 : Int).toNat) := ⟨_, rfl⟩
                                        replace H : (if y541.length + y544.length < 8796093022208 then ((some (y541 ++ y544 : List ByteArray)).bind fun y549 => ((some (x16_3.take (x19_4 : Int).toNat : List ByteArray)).bind fun y552 => ((some (([t537] : List ByteArray) : List ByteArray)).bind fun y555 => (if y552.length + y555.length < 8796093022208 then ((some (y552 ++ y555 : List ByteArray)).bind fun y558 => (if y558.length + y549.length < 8796093022208 then (spec_LengthenAll.l4 k4 x10_2 (y558 ++ y549) (wrap64 (x17_3 + 1))) else (none))) else (none))))) else (none)) = some (r1, r2) := by first | (rw [hy544]; with_reducible exact H) | (have H2_ := (Option.bind_some _ _).symm.trans H; rw [hy544]; with_reducible exact H2_) | (have H2_ := (Option.bind_some _ _).symm.trans H; with_reducible exact H2_) | with_reducible exact H | (rw [hy544]; exact H) | exact H
                                        have Ny544 := Aside0.mk hy544
                                        clear hy544
                                        by_cases c75 : y541.length + y544.length < 8796093022208
                                        · rw [if_pos c75] at H
                                          have LMc75 := Aside0.mk c75
                                          clear c75
                                          obtain ⟨y549, hy549⟩ : ∃ y_ : List ByteArray, y_ = (y541 ++ y544) := ⟨_, rfl⟩
                                          replace H : ((some (x16_3.take (x19_4 : Int).toNat : List ByteArray)).bind fun y552 => ((some (([t537] : List ByteArray) : List ByteArray)).bind fun y555 => (if y552.length + y555.length < 8796093022208 then ((some (y552 ++ y555 : List ByteArray)).bind fun y558 => (if y558.length + y549.length < 8796093022208 then (spec_LengthenAll.l4 k4 x10_2 (y558 ++ y549) (wrap64 (x17_3 + 1))) else (none))) else (none)))) = some (r1, r2) := by first | (rw [hy549]; with_reducible exact H) | (have H2_ := (Option.bind_some _ _).symm.trans H; rw [hy549]; with_reducible exact H2_) | (have H2_ := (Option.bind_some _ _).symm.trans H; with_reducible exact H2_) | with_reducible exact H | (rw [hy549]; exact H) | exact H
                                          have Ny549 := Aside0.mk hy549
                                          clear hy549
                                          have c76b0 := eq_true (of_decide_eq_true (by first | (with_reducible assumption) | assumption) : x19_4 ≤ (x16_3.length : Int))
                                          obtain ⟨y552, hy552⟩ : ∃ y_ : List ByteArray, y_ = (x16_3.take (x19_4 : Int).toNat) := ⟨_, rfl⟩
                                          replace H : ((some (([t537] : List ByteArray) : List ByteArray)).bind fun y555 => (if y552.length + y555.length < 8796093022208 then ((some (y552 ++ y555 : List ByteArray)).bind fun y558 => (if y558.length + y549.length < 8796093022208 then (spec_LengthenAll.l4 k4 x10_2 (y558 ++ y549) (wrap64 (x17_3 + 1))) else (none))) else (none))) = some (r1, r2) := by first | (rw [hy552]; with_reducible exact H) | (have H2_ := (Option.bind_some _ _).symm.trans H; rw [hy552]; with_reducible exact H2_) | (have H2_ := (Option.bind_some _ _).symm.trans H; with_reducible exact H2_) | with_reducible exact H | (rw [hy552]; exact H) | exact H
                                          have Ny552 := Aside0.mk hy552
                                          clear hy552
                                          obtain ⟨y555, hy555⟩ : ∃ y_ : List ByteArray, y_ = (([t537] : List ByteArray)) := ⟨_, rfl⟩
                                          replace H : (if y552.length + y555.length < 8796093022208 then ((some (y552 ++ y555 : List ByteArray)).bind fun y558 => (if y558.length + y549.length < 8796093022208 then (spec_LengthenAll.l4 k4 x10_2 (y558 ++ y549) (wrap64 (x17_3 + 1))) else (none))) else (none)) = some (r1, r2) := by first | (rw [hy555]; with_reducible exact H) | (have H2_ := (Option.bind_some _ _).symm.trans H; rw [hy555]; with_reducible exact H2_) | (have H2_ := (Option.bind_some _ _).symm.trans H; with_reducible exact H2_) | with_reducible exact H | (rw [hy555]; exact H) | exact H
                                          have Ny555 := Aside0.mk hy555
                                          clear hy555
                                          by_cases c77 : y552.length + y555.length < 8796093022208
                                          · rw [if_pos c77] at H
                                            have LMc77 := Aside0.mk c77
                                            clear c77
                                            obtain ⟨y558, hy558⟩ : ∃ y_ : List ByteArray, y_ = (y552 ++ y555) := ⟨_, rfl⟩
                                            replace H : (if y558.length + y549.length < 8796093022208 then (spec_LengthenAll.l4 k4 x10_2 (y558 ++ y549) (wrap64 (x17_3 + 1))) else (none)) = some (r1, r2) := by first | (rw [hy558]; with_reducible exact H) | (have H2_ := (Option.bind_some _ _).symm.trans H; rw [hy558]; with_reducible exact H2_) | (have H2_ := (Option.bind_some _ _).symm.trans H; with_reducible exact H2_) | with_reducible exact H | (rw [hy558]; exact H) | exact H
                                            have Ny558 := Aside0.mk hy558
                                            clear hy558
                                            by_cases c78 : y558.length + y549.length < 8796093022208
                                            · rw [if_pos c78] at H
                                              have LMc78 := Aside0.mk c78
                                              clear c78
                                              obtain ⟨y561, hy561⟩ : ∃ y_ : List ByteArray, y_ = (y558 ++ y549) := ⟨_, rfl⟩
                                              replace H : (spec_LengthenAll.l4 k4 x10_2 y561 (wrap64 (x17_3 + 1))) = some (r1, r2) := by first | (rw [hy561]; with_reducible exact H) | (have H2_ := (Option.bind_some _ _).symm.trans H; rw [hy561]; with_reducible exact H2_) | (have H2_ := (Option.bind_some _ _).symm.trans H; with_reducible exact H2_) | with_reducible exact H | (rw [hy561]; exact H) | exact H
                                              have Ny561 := Aside0.mk hy561
                                              clear hy561
                                              have H' := Aside0.mk H
                                              clear H
                                              obtain ⟨Ao79, co79, eo79⟩ := Kd.R_slice HO_16.out
                                              subst eo79
                                              have p539 : 0 ≤ (x19_4 : Int) := of_decide_eq_true (by first | (with_reducible assumption) | assumption)
                                              have q539 : x19_4 < (x16_3.length : Int) := of_decide_eq_true (by first | (with_reducible assumption) | assumption)
                                              obtain ⟨ad539, e539, hx539_0⟩ := Kd.at_string (Kd.R_reads' HO_16.out).2.2 x19_4 p539 q539
                                              cases e539
                                              replace p539 := eq_true p539
                                              replace q539 := eq_true q539
                                              have p540 : 0 ≤ (x19_4 : Int) := of_decide_eq_true (by first | (with_reducible assumption) | assumption)
                                              have q540 : x19_4 < (x16_3.length : Int) := of_decide_eq_true (by first | (with_reducible assumption) | assumption)
                                              obtain ⟨ad540, e540, hx540_0⟩ := Kd.at_string (Kd.R_reads' HO_16.out).2.2 x19_4 p540 q540
                                              obtain rfl : ad539 = ad540 := (by injection e540)
                                              replace p540 := eq_true p540
                                              replace q540 := eq_true q540
                                              go_wp2_with (first | ((with_reducible refine gate_dst (N := 132) rfl ?_); refine Kd.R_lit Kd.string _ 9 ?hg (N := 132) ?hd (xs := ([] : List ByteArray)) (inner := []) (ok := fun _ => True) (okp := fun _ => True) ?hr ?hp (fun _ hk => hk) trivial (Below.refl _ _) (Nat.le_refl _) (by simp) ?_; (case hd => rfl); (case hg => rfl); (case hr => first | (go_simp; done) | (go_simp; rfl)); (case hp => exact (Reps.none _ _)); intro v542 w80 ho81 hb hg_ hnew_; clear hg_ hnew_; (first | rw [← Ny541.out] at ho81 | (simp only [Int.reduceToNat] at ho81; rw [← Ny541.out] at ho81)); have n0_ := Aside0.mk (Kd.N_elder' (by (with_reducible repeat (first | apply Kd.N_alloc | apply Kd.N_drewN | apply Kd.N_drew)); exact HO_10.out) (Kd.R_base ho81) hb); have n1_ := Aside0.mk (Kd.R_elder' (by (with_reducible repeat (first | apply Kd.R_alloc | apply Kd.R_drewN | apply Kd.R_drew)); exact HO_16.out) (Kd.R_base ho81) hb); have n2_ := Aside0.mk (Kd.R_lower (Kd.R_new' ho81 (Kd.R_lt (by (with_reducible repeat (first | apply Kd.R_alloc | apply Kd.R_drewN | apply Kd.R_drew)); exact HO_16.out))) (below_size (by repeat (first | (with_reducible first | exact HB.out | apply below_alloc | apply pw_below_drewN | apply below_drew1) | exact HB.out)))); have n3_ := Aside0.mk (Kd.C_below (by repeat (first | (with_reducible exact HR536_0.out) | (with_reducible refine Kd.C_alloc ?_ _) | (with_reducible refine Kd.C_drewN ?_ _) | (with_reducible refine Kd.C_drew ?_) | exact HR536_0.out)) hb); have n4_ := Aside0.mk (below_step (by repeat (first | (with_reducible first | exact HB.out | apply below_alloc | apply pw_below_drewN | apply below_drew1) | exact HB.out)) hb); clear HO_10; clear HO_16; clear HR536_0; clear HB; have HO_10 := n0_; have HO_16 := n1_; have HO543 := n2_; have HR536_0 := n3_; have HB := n4_; clear n0_ n1_ n2_ n3_ n4_; clear hb ho81; have q82 : (x19_4 : Int) ≤ ((x16_3.length : Int) : Int) := of_decide_eq_true (by first | (with_reducible assumption) | assumption); obtain ⟨i082, hi082, _, hsz82, _⟩ := info_parts info9; have hroom82 : x16_3.length ≤ co79 := (Kd.R_reads' HO_16.out).2.1; have hC82 : Kd.F Kd.string _ _ (some ad539) x16_3.length x16_3 := (Kd.V_at (base := w.heap.size) (Kd.R_V (Kd.R_apart' (HO_16.out) (Kd.N_typed HO_10.out) (by decide)))).2.2; have q082 : (0 : Int) ≤ (x19_4 : Int) := of_decide_eq_true (by first | (with_reducible assumption) | assumption); have hcut82 := cut_from (P := Tryd.prog) 37 9 .i64 Tryd.underlying37 hi082 1 hsz82 (some ad539) x16_3.length co79 x19_4 q082 q82; have hr82 := Kd.F_cut (m := (x19_4 : Int).toNat) (c := co79) hC82 (by omega) hroom82; obtain ⟨A82, hA82⟩ : ∃ A1, A1 = (if co79 = (x19_4 : Int).toNat then (some ad539) else ((some ad539) : Option Addr).map (·.add ((x19_4 : Int).toNat * 1))) := ⟨_, rfl⟩; obtain ⟨c82, hc82⟩ : ∃ c1, c1 = co79 - (x19_4 : Int).toNat := ⟨_, rfl⟩; have hy82 : y544.length = x16_3.length - (x19_4 : Int).toNat := (by rw [Ny544.out, List.length_drop] <;> omega); rw [show (x16_3).drop (x19_4 : Int).toNat = y544 from Ny544.out.symm] at hr82; replace hr82 : Kd.F Kd.string _ _ A82 y544.length y544 := (by rw [hA82]; exact hr82); rw [← hy82, ← hA82, ← hc82] at hcut82; have HO548 := Aside0.mk (show Kd.V Kd.string 9 _ w.heap.size _ (.slice A82 y544.length c82) y544 from Kd.V_mk (by rw [hy82, hc82]; exact Nat.sub_le_sub_right hroom82 _) hr82); have HC548 := Aside0.mk (show y544.length ≤ c82 from by rw [hy82, hc82]; exact Nat.sub_le_sub_right hroom82 _); clear hr82 hC82 hroom82 hi082 hsz82 hc82; have KY82 := Aside0.mk hy82; have KA82 := Aside0.mk hA82; clear hy82 hA82; replace q82 := eq_true q82) | ((with_reducible refine gate_builtin (b := .append) (xs := #[.tmp 132, .tmp 135]) rfl ?_); at_builtin; refine Kd.R_append_rows Kd.string (w0 := w) w.heap.size rfl (.tmp 132) (.tmp 135) 37 9 (.string ⟨#[]⟩) 16 rfl Tryd.underlying37 info9 rfl (by decide) (by omega) v542 y541 y544 _ _ _ (fun k_ => some k_ ≠ (.slice (some ad539) x16_3.length co79 : Value).ownBlock) (fun _ => False) rfl rfl ?aO ?aR (fun _ _ h => h) (fun _ h => h.elim) ?aF ?aB ?aS ?aL ?_; (case aR => repeat (first | exact (Kd.V_reads' HO548.out).2.2 | (with_reducible refine Kd.C_alloc ?_ _) | (with_reducible refine Kd.C_drewN ?_ _) | (with_reducible refine Kd.C_drew ?_))); (case aB => exact (by repeat (first | (with_reducible first | exact HB.out | apply below_alloc | apply pw_below_drewN | apply below_drew1) | exact HB.out))); (case aF => exact (fun k_ hk => Kd.fresh' (Kd.R_lt (by (with_reducible repeat (first | apply Kd.R_alloc | apply Kd.R_drewN | apply Kd.R_drew)); exact HO_16.out)) k_ hk)); (case aO => exact (by (with_reducible repeat (first | apply Kd.R_alloc | apply Kd.R_drewN | apply Kd.R_drew)); exact Kd.R_mono HO543.out (fun _ hk => hk.2))); (case aS => exact (below_size (by repeat (first | (with_reducible first | exact HB.out | apply below_alloc | apply pw_below_drewN | apply below_drew1) | exact HB.out)))); (case aL => have := LMc75.out; omega); intro v550 w83 ho hb hg hat; rw [← Ny549.out] at ho; have n0_ := Aside0.mk (Kd.N_afterv (ok := (fun k_ => some k_ ≠ (.slice (some ad539) x16_3.length co79 : Value).ownBlock)) (by (with_reducible repeat (first | apply Kd.N_alloc | apply Kd.N_drewN | apply Kd.N_drew)); exact HO_10.out) hg hat); have n1_ := Aside0.mk (Kd.R_after (ok := (fun _ => True)) (by (with_reducible repeat (first | apply Kd.R_alloc | apply Kd.R_drewN | apply Kd.R_drew)); exact HO_16.out) hg hat); have n2_ := Aside0.mk (Kd.V_afterv (ok := (fun k_ => some k_ ≠ (.slice (some ad536) x10_2.length co66 : Value).ownBlock)) (by (with_reducible repeat (first | apply Kd.V_alloc | apply Kd.V_drewN | apply Kd.V_drew)); exact Kd.V_mono HO548.out (fun _ hk => ⟨hk.2, hk.1.2⟩)) hg hat); have n3_ := Aside0.mk (hb); have n4_ := Aside0.mk (ho); clear HO_10; clear HO_16; clear HO548; clear HB; clear HO543; have HO_10 := n0_; have HO_16 := n1_; have HO548 := n2_; have HB := n3_; have HO551 := n4_; clear n0_ n1_ n2_ n3_ n4_; clear ho hb hg hat; have q84 : (x19_4 : Int) ≤ ((x16_3.length : Int) : Int) := of_decide_eq_true (by first | (with_reducible assumption) | assumption); obtain ⟨i084, hi084, _, hsz84, _⟩ := info_parts info9; have hcut84 := cut_to (P := Tryd.prog) 37 9 .i64 Tryd.underlying37 hi084 (some ad539) x16_3.length co79 x19_4 (of_decide_eq_true (by first | (with_reducible assumption) | assumption)) q84 (Kd.R_reads' HO_16.out).2.1; have hr84 := Kd.R_take (m := (x19_4 : Int).toNat) HO_16.out (by omega); have hy84 : y552.length = (x19_4 : Int).toNat := (by rw [Ny552.out, List.length_take]; omega); rw [← Ny552.out] at hr84; rw [← hy84] at hr84 hcut84; clear hy84 hi084 hsz84 HO_16; have HO554 := Aside0.mk hr84; clear hr84; replace q84 := eq_true q84) | ((with_reducible refine gate_dst (N := 141) rfl ?_); refine Kd.R_lit Kd.string _ 9 ?hg (N := 141) ?hd (xs := ([t537] : List ByteArray)) (inner := [.string t537]) (ok := fun _ => True) (okp := fun _ => True) ?hr ?hp (fun _ hk => hk) trivial (Below.refl _ _) (Nat.le_refl _) (by simp) ?_; (case hd => rfl); (case hg => rfl); (case hr => first | (go_simp; done) | (go_simp; rfl)); (case hp => exact (Reps.one (show Kd.M Kd.string _ _ _ t537 [.string t537] from rfl) (Reps.none _ _))); intro v556 w85 ho86 hb hg_ hnew_; clear hg_ hnew_; (first | rw [← Ny555.out] at ho86 | (simp only [Int.reduceToNat] at ho86; rw [← Ny555.out] at ho86)); have n0_ := Aside0.mk (Kd.N_elder' (by (with_reducible repeat (first | apply Kd.N_alloc | apply Kd.N_drewN | apply Kd.N_drew)); exact HO_10.out) (Kd.R_base ho86) hb); have n1_ := Aside0.mk (Kd.R_elder' (by (with_reducible repeat (first | apply Kd.R_alloc | apply Kd.R_drewN | apply Kd.R_drew)); exact HO554.out) (Kd.R_base ho86) hb); have n2_ := Aside0.mk (Kd.V_elder' (by (with_reducible repeat (first | apply Kd.V_alloc | apply Kd.V_drewN | apply Kd.V_drew)); exact HO548.out) (Kd.R_base ho86) hb); have n3_ := Aside0.mk (Kd.R_elder' (by (with_reducible repeat (first | apply Kd.R_alloc | apply Kd.R_drewN | apply Kd.R_drew)); exact HO551.out) (Kd.R_base ho86) hb); have n4_ := Aside0.mk (Kd.R_lower (Kd.R_new' (Kd.R_new' ho86 (Kd.R_lt (by (with_reducible repeat (first | apply Kd.R_alloc | apply Kd.R_drewN | apply Kd.R_drew)); exact HO554.out))) (Kd.R_lt (by (with_reducible repeat (first | apply Kd.R_alloc | apply Kd.R_drewN | apply Kd.R_drew)); exact HO551.out))) (below_size (by repeat (first | (with_reducible first | exact HB.out | apply below_alloc | apply pw_below_drewN | apply below_drew1) | exact HB.out)))); have n5_ := Aside0.mk (below_step (by repeat (first | (with_reducible first | exact HB.out | apply below_alloc | apply pw_below_drewN | apply below_drew1) | exact HB.out)) hb); clear HO_10; clear HO554; clear HO548; clear HO551; clear HB; have HO_10 := n0_; have HO554 := n1_; have HO548 := n2_; have HO551 := n3_; have HO557 := n4_; have HB := n5_; clear n0_ n1_ n2_ n3_ n4_ n5_; clear hb ho86; obtain ⟨Ao88, co88, eo88⟩ := Kd.R_slice HO557.out; subst eo88) | ((with_reducible refine gate_builtin (b := .append) (xs := #[.tmp 139, .tmp 141]) rfl ?_); at_builtin; refine Kd.R_append_rows Kd.string (w0 := w) w.heap.size rfl (.tmp 139) (.tmp 141) 37 9 (.string ⟨#[]⟩) 16 rfl Tryd.underlying37 info9 rfl (by decide) (by omega) (.slice (some ad539) y552.length co79) y552 y555 _ _ _ (fun k_ => some k_ ≠ (v550 : Value).ownBlock ∧ some k_ ≠ (.slice Ao88 y555.length co88 : Value).ownBlock) (fun _ => False) rfl rfl ?aO ?aR (fun _ _ h => h) (fun _ h => h.elim) ?aF ?aB ?aS ?aL ?_; (case aR => repeat (first | exact (Kd.R_reads' HO557.out).2.2 | (with_reducible refine Kd.C_alloc ?_ _) | (with_reducible refine Kd.C_drewN ?_ _) | (with_reducible refine Kd.C_drew ?_))); (case aB => exact (by repeat (first | (with_reducible first | exact HB.out | apply below_alloc | apply pw_below_drewN | apply below_drew1) | exact HB.out))); (case aF => exact (fun k_ hk => ⟨Kd.fresh' (Kd.R_lt (by (with_reducible repeat (first | apply Kd.R_alloc | apply Kd.R_drewN | apply Kd.R_drew)); exact HO551.out)) k_ hk, Kd.fresh' (Kd.R_lt (by (with_reducible repeat (first | apply Kd.R_alloc | apply Kd.R_drewN | apply Kd.R_drew)); exact HO557.out)) k_ hk⟩)); (case aO => exact (by (with_reducible repeat (first | apply Kd.R_alloc | apply Kd.R_drewN | apply Kd.R_drew)); exact Kd.R_mono HO554.out (fun _ hk => ⟨hk.1.2, hk.2⟩))); (case aS => exact (below_size (by repeat (first | (with_reducible first | exact HB.out | apply below_alloc | apply pw_below_drewN | apply below_drew1) | exact HB.out)))); (case aL => have := LMc77.out; omega); intro v559 w87 ho hb hg hat; rw [← Ny558.out] at ho; have n0_ := Aside0.mk (Kd.N_afterv (ok := (fun k_ => some k_ ≠ (v550 : Value).ownBlock ∧ some k_ ≠ (.slice Ao88 y555.length co88 : Value).ownBlock)) (by (with_reducible repeat (first | apply Kd.N_alloc | apply Kd.N_drewN | apply Kd.N_drew)); exact Kd.N_mono HO_10.out (fun _ hk => ⟨⟨hk.1.2, hk.2⟩, hk.1.1⟩)) hg hat); have n1_ := Aside0.mk (Kd.R_after (ok := (fun k_ => some k_ ≠ (.slice Ao88 y555.length co88 : Value).ownBlock)) (by (with_reducible repeat (first | apply Kd.R_alloc | apply Kd.R_drewN | apply Kd.R_drew)); exact Kd.R_mono HO551.out (fun _ hk => ⟨hk.2, hk.1⟩)) hg hat); have n2_ := Aside0.mk (Kd.R_after (ok := (fun k_ => some k_ ≠ (v550 : Value).ownBlock)) (by (with_reducible repeat (first | apply Kd.R_alloc | apply Kd.R_drewN | apply Kd.R_drew)); exact Kd.R_mono HO557.out (fun _ hk => ⟨hk.2, hk.1.2⟩)) hg hat); have n3_ := Aside0.mk (hb); have n4_ := Aside0.mk (ho); clear HO_10; clear HO551; clear HO557; clear HB; clear HO554; have HO_10 := n0_; have HO551 := n1_; have HO557 := n2_; have HB := n3_; have HO560 := n4_; clear n0_ n1_ n2_ n3_ n4_; clear ho hb hg hat; obtain ⟨Ao90, co90, eo90⟩ := Kd.R_slice HO551.out; subst eo90) | ((with_reducible refine gate_builtin (b := .append) (xs := #[.tmp 142, .tmp 143]) rfl ?_); at_builtin; refine Kd.R_append_rows Kd.string (w0 := w) w.heap.size rfl (.tmp 142) (.tmp 143) 37 9 (.string ⟨#[]⟩) 16 rfl Tryd.underlying37 info9 rfl (by decide) (by omega) v559 y558 y549 _ _ _ (fun k_ => some k_ ≠ (.slice Ao90 y549.length co90 : Value).ownBlock ∧ some k_ ≠ (.slice Ao88 y555.length co88 : Value).ownBlock) (fun _ => False) rfl rfl ?aO ?aR (fun _ _ h => h) (fun _ h => h.elim) ?aF ?aB ?aS ?aL ?_; (case aR => repeat (first | exact (Kd.R_reads' HO551.out).2.2 | (with_reducible refine Kd.C_alloc ?_ _) | (with_reducible refine Kd.C_drewN ?_ _) | (with_reducible refine Kd.C_drew ?_))); (case aB => exact (by repeat (first | (with_reducible first | exact HB.out | apply below_alloc | apply pw_below_drewN | apply below_drew1) | exact HB.out))); (case aF => exact (fun k_ hk => ⟨Kd.fresh' (Kd.R_lt (by (with_reducible repeat (first | apply Kd.R_alloc | apply Kd.R_drewN | apply Kd.R_drew)); exact HO551.out)) k_ hk, Kd.fresh' (Kd.R_lt (by (with_reducible repeat (first | apply Kd.R_alloc | apply Kd.R_drewN | apply Kd.R_drew)); exact HO557.out)) k_ hk⟩)); (case aO => exact (by (with_reducible repeat (first | apply Kd.R_alloc | apply Kd.R_drewN | apply Kd.R_drew)); exact HO560.out)); (case aS => exact (below_size (by repeat (first | (with_reducible first | exact HB.out | apply below_alloc | apply pw_below_drewN | apply below_drew1) | exact HB.out)))); (case aL => have := LMc78.out; omega); intro v562 w89 ho hb hg hat; rw [← Ny561.out] at ho; have n0_ := Aside0.mk (Kd.N_afterv (ok := (fun k_ => some k_ ≠ (.slice Ao90 y549.length co90 : Value).ownBlock ∧ some k_ ≠ (.slice Ao88 y555.length co88 : Value).ownBlock)) (by (with_reducible repeat (first | apply Kd.N_alloc | apply Kd.N_drewN | apply Kd.N_drew)); exact HO_10.out) hg hat); have n1_ := Aside0.mk (Kd.R_after (ok := (fun k_ => some k_ ≠ (.slice Ao88 y555.length co88 : Value).ownBlock)) (by (with_reducible repeat (first | apply Kd.R_alloc | apply Kd.R_drewN | apply Kd.R_drew)); exact HO551.out) hg hat); have n2_ := Aside0.mk (Kd.R_after (ok := (fun k_ => some k_ ≠ (.slice Ao90 y549.length co90 : Value).ownBlock)) (by (with_reducible repeat (first | apply Kd.R_alloc | apply Kd.R_drewN | apply Kd.R_drew)); exact HO557.out) hg hat); have n3_ := Aside0.mk (hb); have n4_ := Aside0.mk (ho); clear HO_10; clear HO551; clear HO557; clear HB; clear HO560; have HO_10 := n0_; have HO551 := n1_; have HO557 := n2_; have HB := n3_; have HO563 := n4_; clear n0_ n1_ n2_ n3_ n4_; clear ho hb hg hat))
                                              go_roundg k4
                                              case measure => have := HK1.out; have := HK2.out; have := HK3.out; have := HK4.out; omega
                                              case rel => exact ⟨(y561), (wrap64 (x17_3 + 1)), (by first | rfl | (simp; done) | (simp [*]; done)), H', ⟨by have := HK1.out; have := HK2.out; have := HK3.out; have := HK4.out; omega⟩, ⟨by (with_reducible repeat (first | apply Kd.N_alloc | apply Kd.N_drewN | apply Kd.N_drew)); exact Kd.N_mono HO_10.out (fun _ hk => hk.2)⟩, ⟨by (with_reducible repeat (first | apply Kd.R_alloc | apply Kd.R_drewN | apply Kd.R_drew)); exact Kd.R_mono HO563.out (fun _ hk => trivial)⟩, ⟨by repeat (first | (with_reducible first | exact HB.out | apply below_alloc | apply pw_below_drewN | apply below_drew1) | exact HB.out)⟩⟩
                                            · rw [if_neg c78] at H
                                              exact absurd H (by simp)
                                          · rw [if_neg c77] at H
                                            exact absurd H (by simp)
                                        · rw [if_neg c75] at H
                                          exact absurd H (by simp)
                                      · rw [if_neg c74] at H
                                        exact absurd H (by simp)
                                · rw [if_neg c68] at H
                                  exact absurd H (by simp)
                              · rw [if_neg c67] at H
                                have c67b0 : decide (x19_4 < (x16_3.length : Int)) = false := decide_eq_false c67
                                clear c67
                                obtain ⟨y564, hy564⟩ : ∃ y_ : List ByteArray, y_ = (([] : List ByteArray)) := ⟨_, rfl⟩
                                replace H : (if 0 ≤ x19_4 then (if x19_4 ≤ (x16_3.length : Int) then ((some (x16_3.drop (x19_4 : Int).toNat : List ByteArray)).bind fun y567 => (if y564.length + y567.length < 8796093022208 then ((some (y564 ++ y567 : List ByteArray)).bind fun y572 => ((some (x16_3.take (x19_4 : Int).toNat : List ByteArray)).bind fun y575 => ((some (([t537] : List ByteArray) : List ByteArray)).bind fun y578 => (if y575.length + y578.length < 8796093022208 then ((some (y575 ++ y578 : List ByteArray)).bind fun y581 => (if y581.length + y572.length < 8796093022208 then (spec_LengthenAll.l4 k4 x10_2 (y581 ++ y572) (wrap64 (x17_3 + 1))) else (none))) else (none))))) else (none))) else (none)) else (none)) = some (r1, r2) := by first | (rw [hy564]; with_reducible exact H) | (have H2_ := (Option.bind_some _ _).symm.trans H; rw [hy564]; with_reducible exact H2_) | (have H2_ := (Option.bind_some _ _).symm.trans H; with_reducible exact H2_) | with_reducible exact H | (rw [hy564]; exact H) | exact H
                                have Ny564 := Aside0.mk hy564
                                clear hy564
                                by_cases c91 : 0 ≤ x19_4
                                · rw [if_pos c91] at H
                                  have c91b0 := eq_true c91
                                  have c91b1 : decide (0 ≤ x19_4) = true := decide_eq_true c91
                                  clear c91
                                  by_cases c92 : x19_4 ≤ (x16_3.length : Int)
                                  · rw [if_pos c92] at H
                                    have c92b0 := eq_true c92
                                    have c92b1 : decide (x19_4 ≤ (x16_3.length : Int)) = true := decide_eq_true c92
                                    clear c92
                                    obtain ⟨y567, hy567⟩ : ∃ y_ : List ByteArray, y_ = (x16_3.drop (x19_4 : Int).toNat) := ⟨_, rfl⟩
                                    replace H : (if y564.length + y567.length < 8796093022208 then ((some (y564 ++ y567 : List ByteArray)).bind fun y572 => ((some (x16_3.take (x19_4 : Int).toNat : List ByteArray)).bind fun y575 => ((some (([t537] : List ByteArray) : List ByteArray)).bind fun y578 => (if y575.length + y578.length < 8796093022208 then ((some (y575 ++ y578 : List ByteArray)).bind fun y581 => (if y581.length + y572.length < 8796093022208 then (spec_LengthenAll.l4 k4 x10_2 (y581 ++ y572) (wrap64 (x17_3 + 1))) else (none))) else (none))))) else (none)) = some (r1, r2) := by first | (rw [hy567]; with_reducible exact H) | (have H2_ := (Option.bind_some _ _).symm.trans H; rw [hy567]; with_reducible exact H2_) | (have H2_ := (Option.bind_some _ _).symm.trans H; with_reducible exact H2_) | with_reducible exact H | (rw [hy567]; exact H) | exact H
                                    have Ny567 := Aside0.mk hy567
                                    clear hy567
                                    by_cases c93 : y564.length + y567.length < 8796093022208
                                    · rw [if_pos c93] at H
                                      have LMc93 := Aside0.mk c93
                                      clear c93
                                      obtain ⟨y572, hy572⟩ : ∃ y_ : List ByteArray, y_ = (y564 ++ y567) := ⟨_, rfl⟩
                                      replace H : ((some (x16_3.take (x19_4 : Int).toNat : List ByteArray)).bind fun y575 => ((some (([t537] : List ByteArray) : List ByteArray)).bind fun y578 => (if y575.length + y578.length < 8796093022208 then ((some (y575 ++ y578 : List ByteArray)).bind fun y581 => (if y581.length + y572.length < 8796093022208 then (spec_LengthenAll.l4 k4 x10_2 (y581 ++ y572) (wrap64 (x17_3 + 1))) else (none))) else (none)))) = some (r1, r2) := by first | (rw [hy572]; with_reducible exact H) | (have H2_ := (Option.bind_some _ _).symm.trans H; rw [hy572]; with_reducible exact H2_) | (have H2_ := (Option.bind_some _ _).symm.trans H; with_reducible exact H2_) | with_reducible exact H | (rw [hy572]; exact H) | exact H
                                      have Ny572 := Aside0.mk hy572
                                      clear hy572
                                      have c94b0 := eq_true (of_decide_eq_true (by first | (with_reducible assumption) | assumption) : x19_4 ≤ (x16_3.length : Int))
                                      obtain ⟨y575, hy575⟩ : ∃ y_ : List ByteArray, y_ = (x16_3.take (x19_4 : Int).toNat) := ⟨_, rfl⟩
                                      replace H : ((some (([t537] : List ByteArray) : List ByteArray)).bind fun y578 => (if y575.length + y578.length < 8796093022208 then ((some (y575 ++ y578 : List ByteArray)).bind fun y581 => (if y581.length + y572.length < 8796093022208 then (spec_LengthenAll.l4 k4 x10_2 (y581 ++ y572) (wrap64 (x17_3 + 1))) else (none))) else (none))) = some (r1, r2) := by first | (rw [hy575]; with_reducible exact H) | (have H2_ := (Option.bind_some _ _).symm.trans H; rw [hy575]; with_reducible exact H2_) | (have H2_ := (Option.bind_some _ _).symm.trans H; with_reducible exact H2_) | with_reducible exact H | (rw [hy575]; exact H) | exact H
                                      have Ny575 := Aside0.mk hy575
                                      clear hy575
                                      obtain ⟨y578, hy578⟩ : ∃ y_ : List ByteArray, y_ = (([t537] : List ByteArray)) := ⟨_, rfl⟩
                                      replace H : (if y575.length + y578.length < 8796093022208 then ((some (y575 ++ y578 : List ByteArray)).bind fun y581 => (if y581.length + y572.length < 8796093022208 then (spec_LengthenAll.l4 k4 x10_2 (y581 ++ y572) (wrap64 (x17_3 + 1))) else (none))) else (none)) = some (r1, r2) := by first | (rw [hy578]; with_reducible exact H) | (have H2_ := (Option.bind_some _ _).symm.trans H; rw [hy578]; with_reducible exact H2_) | (have H2_ := (Option.bind_some _ _).symm.trans H; with_reducible exact H2_) | with_reducible exact H | (rw [hy578]; exact H) | exact H
                                      have Ny578 := Aside0.mk hy578
                                      clear hy578
                                      by_cases c95 : y575.length + y578.length < 8796093022208
                                      · rw [if_pos c95] at H
                                        have LMc95 := Aside0.mk c95
                                        clear c95
                                        obtain ⟨y581, hy581⟩ : ∃ y_ : List ByteArray, y_ = (y575 ++ y578) := ⟨_, rfl⟩
                                        replace H : (if y581.length + y572.length < 8796093022208 then (spec_LengthenAll.l4 k4 x10_2 (y581 ++ y572) (wrap64 (x17_3 + 1))) else (none)) = some (r1, r2) := by first | (rw [hy581]; with_reducible exact H) | (have H2_ := (Option.bind_some _ _).symm.trans H; rw [hy581]; with_reducible exact H2_) | (have H2_ := (Option.bind_some _ _).symm.trans H; with_reducible exact H2_) | with_reducible exact H | (rw [hy581]; exact H) | exact H
                                        have Ny581 := Aside0.mk hy581
                                        clear hy581
                                        by_cases c96 : y581.length + y572.length < 8796093022208
                                        · rw [if_pos c96] at H
                                          have LMc96 := Aside0.mk c96
                                          clear c96
                                          obtain ⟨y584, hy584⟩ : ∃ y_ : List ByteArray, y_ = (y581 ++ y572) := ⟨_, rfl⟩
                                          replace H : (spec_LengthenAll.l4 k4 x10_2 y584 (wrap64 (x17_3 + 1))) = some (r1, r2) := by first | (rw [hy584]; with_reducible exact H) | (have H2_ := (Option.bind_some _ _).symm.trans H; rw [hy584]; with_reducible exact H2_) | (have H2_ := (Option.bind_some _ _).symm.trans H; with_reducible exact H2_) | with_reducible exact H | (rw [hy584]; exact H) | exact H
                                          have Ny584 := Aside0.mk hy584
                                          clear hy584
                                          have H' := Aside0.mk H
                                          clear H
                                          obtain ⟨Ao97, co97, eo97⟩ := Kd.R_slice HO_16.out
                                          subst eo97
                                          have own97 : ∀ n : Nat, (Value.slice Ao97 n co97).ownBlock = (Value.slice Ao97 x16_3.length co97).ownBlock := fun n => by cases Ao97 <;> rfl
                                          go_wp2_with (first | ((with_reducible refine gate_dst (N := 132) rfl ?_); refine Kd.R_lit Kd.string _ 9 ?hg (N := 132) ?hd (xs := ([] : List ByteArray)) (inner := []) (ok := fun _ => True) (okp := fun _ => True) ?hr ?hp (fun _ hk => hk) trivial (Below.refl _ _) (Nat.le_refl _) (by simp) ?_; (case hd => rfl); (case hg => rfl); (case hr => first | (go_simp; done) | (go_simp; rfl)); (case hp => exact (Reps.none _ _)); intro v565 w98 ho99 hb hg_ hnew_; clear hg_ hnew_; (first | rw [← Ny564.out] at ho99 | (simp only [Int.reduceToNat] at ho99; rw [← Ny564.out] at ho99)); have n0_ := Aside0.mk (Kd.N_elder' (by (with_reducible repeat (first | apply Kd.N_alloc | apply Kd.N_drewN | apply Kd.N_drew)); exact HO_10.out) (Kd.R_base ho99) hb); have n1_ := Aside0.mk (Kd.R_elder' (by (with_reducible repeat (first | apply Kd.R_alloc | apply Kd.R_drewN | apply Kd.R_drew)); exact HO_16.out) (Kd.R_base ho99) hb); have n2_ := Aside0.mk (Kd.R_lower (Kd.R_new' ho99 (Kd.R_lt (by (with_reducible repeat (first | apply Kd.R_alloc | apply Kd.R_drewN | apply Kd.R_drew)); exact HO_16.out))) (below_size (by repeat (first | (with_reducible first | exact HB.out | apply below_alloc | apply pw_below_drewN | apply below_drew1) | exact HB.out)))); have n3_ := Aside0.mk (Kd.C_below (by repeat (first | (with_reducible exact HR536_0.out) | (with_reducible refine Kd.C_alloc ?_ _) | (with_reducible refine Kd.C_drewN ?_ _) | (with_reducible refine Kd.C_drew ?_) | exact HR536_0.out)) hb); have n4_ := Aside0.mk (below_step (by repeat (first | (with_reducible first | exact HB.out | apply below_alloc | apply pw_below_drewN | apply below_drew1) | exact HB.out)) hb); clear HO_10; clear HO_16; clear HR536_0; clear HB; have HO_10 := n0_; have HO_16 := n1_; have HO566 := n2_; have HR536_0 := n3_; have HB := n4_; clear n0_ n1_ n2_ n3_ n4_; clear hb ho99; have q100 : (x19_4 : Int) ≤ ((x16_3.length : Int) : Int) := of_decide_eq_true (by first | (with_reducible assumption) | assumption); obtain ⟨i0100, hi0100, _, hsz100, _⟩ := info_parts info9; have hroom100 : x16_3.length ≤ co97 := (Kd.R_reads' HO_16.out).2.1; have hC100 : Kd.F Kd.string _ _ Ao97 x16_3.length x16_3 := (Kd.V_at (base := w.heap.size) (Kd.R_V (Kd.R_apart' (HO_16.out) (Kd.N_typed HO_10.out) (by decide)))).2.2; have q0100 : (0 : Int) ≤ (x19_4 : Int) := of_decide_eq_true (by first | (with_reducible assumption) | assumption); have hcut100 := cut_from (P := Tryd.prog) 37 9 .i64 Tryd.underlying37 hi0100 1 hsz100 Ao97 x16_3.length co97 x19_4 q0100 q100; have hr100 := Kd.F_cut (m := (x19_4 : Int).toNat) (c := co97) hC100 (by omega) hroom100; obtain ⟨A100, hA100⟩ : ∃ A1, A1 = (if co97 = (x19_4 : Int).toNat then Ao97 else (Ao97 : Option Addr).map (·.add ((x19_4 : Int).toNat * 1))) := ⟨_, rfl⟩; obtain ⟨c100, hc100⟩ : ∃ c1, c1 = co97 - (x19_4 : Int).toNat := ⟨_, rfl⟩; have hy100 : y567.length = x16_3.length - (x19_4 : Int).toNat := (by rw [Ny567.out, List.length_drop] <;> omega); rw [show (x16_3).drop (x19_4 : Int).toNat = y567 from Ny567.out.symm] at hr100; replace hr100 : Kd.F Kd.string _ _ A100 y567.length y567 := (by rw [hA100]; exact hr100); rw [← hy100, ← hA100, ← hc100] at hcut100; have HO571 := Aside0.mk (show Kd.V Kd.string 9 _ w.heap.size _ (.slice A100 y567.length c100) y567 from Kd.V_mk (by rw [hy100, hc100]; exact Nat.sub_le_sub_right hroom100 _) hr100); have HC571 := Aside0.mk (show y567.length ≤ c100 from by rw [hy100, hc100]; exact Nat.sub_le_sub_right hroom100 _); clear hr100 hC100 hroom100 hi0100 hsz100 hc100; have KY100 := Aside0.mk hy100; have KA100 := Aside0.mk hA100; clear hy100 hA100; replace q100 := eq_true q100) | ((with_reducible refine gate_builtin (b := .append) (xs := #[.tmp 132, .tmp 135]) rfl ?_); at_builtin; refine Kd.R_append_rows Kd.string (w0 := w) w.heap.size rfl (.tmp 132) (.tmp 135) 37 9 (.string ⟨#[]⟩) 16 rfl Tryd.underlying37 info9 rfl (by decide) (by omega) v565 y564 y567 _ _ _ (fun k_ => some k_ ≠ (.slice Ao97 x16_3.length co97 : Value).ownBlock) (fun _ => False) rfl rfl ?aO ?aR (fun _ _ h => h) (fun _ h => h.elim) ?aF ?aB ?aS ?aL ?_; (case aR => repeat (first | exact (Kd.V_reads' HO571.out).2.2 | (with_reducible refine Kd.C_alloc ?_ _) | (with_reducible refine Kd.C_drewN ?_ _) | (with_reducible refine Kd.C_drew ?_))); (case aB => exact (by repeat (first | (with_reducible first | exact HB.out | apply below_alloc | apply pw_below_drewN | apply below_drew1) | exact HB.out))); (case aF => exact (fun k_ hk => Kd.fresh' (Kd.R_lt (by (with_reducible repeat (first | apply Kd.R_alloc | apply Kd.R_drewN | apply Kd.R_drew)); exact HO_16.out)) k_ hk)); (case aO => exact (by (with_reducible repeat (first | apply Kd.R_alloc | apply Kd.R_drewN | apply Kd.R_drew)); exact Kd.R_mono HO566.out (fun _ hk => (by first | exact hk.2 | (rw [own97]; exact hk.2))))); (case aS => exact (below_size (by repeat (first | (with_reducible first | exact HB.out | apply below_alloc | apply pw_below_drewN | apply below_drew1) | exact HB.out)))); (case aL => have := LMc93.out; omega); intro v573 w101 ho hb hg hat; rw [← Ny572.out] at ho; have n0_ := Aside0.mk (Kd.N_afterv (ok := (fun k_ => some k_ ≠ (.slice Ao97 x16_3.length co97 : Value).ownBlock)) (by (with_reducible repeat (first | apply Kd.N_alloc | apply Kd.N_drewN | apply Kd.N_drew)); exact HO_10.out) hg hat); have n1_ := Aside0.mk (Kd.R_after (ok := (fun _ => True)) (by (with_reducible repeat (first | apply Kd.R_alloc | apply Kd.R_drewN | apply Kd.R_drew)); exact HO_16.out) hg hat); have n2_ := Aside0.mk (Kd.V_afterv (ok := (fun k_ => some k_ ≠ (.slice (some ad536) x10_2.length co66 : Value).ownBlock)) (by (with_reducible repeat (first | apply Kd.V_alloc | apply Kd.V_drewN | apply Kd.V_drew)); exact Kd.V_mono HO571.out (fun _ hk => ⟨(by first | exact hk.2 | (rw [own97]; exact hk.2)), (by first | exact hk.1.2 | (rw [own97]; exact hk.1.2))⟩)) hg hat); have n3_ := Aside0.mk (hb); have n4_ := Aside0.mk (ho); clear HO_10; clear HO_16; clear HO571; clear HB; clear HO566; have HO_10 := n0_; have HO_16 := n1_; have HO571 := n2_; have HB := n3_; have HO574 := n4_; clear n0_ n1_ n2_ n3_ n4_; clear ho hb hg hat; have q102 : (x19_4 : Int) ≤ ((x16_3.length : Int) : Int) := of_decide_eq_true (by first | (with_reducible assumption) | assumption); obtain ⟨i0102, hi0102, _, hsz102, _⟩ := info_parts info9; have hcut102 := cut_to (P := Tryd.prog) 37 9 .i64 Tryd.underlying37 hi0102 Ao97 x16_3.length co97 x19_4 (of_decide_eq_true (by first | (with_reducible assumption) | assumption)) q102 (Kd.R_reads' HO_16.out).2.1; have hr102 := Kd.R_take (m := (x19_4 : Int).toNat) HO_16.out (by omega); have hy102 : y575.length = (x19_4 : Int).toNat := (by rw [Ny575.out, List.length_take]; omega); rw [← Ny575.out] at hr102; rw [← hy102] at hr102 hcut102; clear hy102 hi0102 hsz102 HO_16; have HO577 := Aside0.mk hr102; clear hr102; replace q102 := eq_true q102) | ((with_reducible refine gate_dst (N := 141) rfl ?_); refine Kd.R_lit Kd.string _ 9 ?hg (N := 141) ?hd (xs := ([t537] : List ByteArray)) (inner := [.string t537]) (ok := fun _ => True) (okp := fun _ => True) ?hr ?hp (fun _ hk => hk) trivial (Below.refl _ _) (Nat.le_refl _) (by simp) ?_; (case hd => rfl); (case hg => rfl); (case hr => first | (go_simp; done) | (go_simp; rfl)); (case hp => exact (Reps.one (show Kd.M Kd.string _ _ _ t537 [.string t537] from rfl) (Reps.none _ _))); intro v579 w103 ho104 hb hg_ hnew_; clear hg_ hnew_; (first | rw [← Ny578.out] at ho104 | (simp only [Int.reduceToNat] at ho104; rw [← Ny578.out] at ho104)); have n0_ := Aside0.mk (Kd.N_elder' (by (with_reducible repeat (first | apply Kd.N_alloc | apply Kd.N_drewN | apply Kd.N_drew)); exact HO_10.out) (Kd.R_base ho104) hb); have n1_ := Aside0.mk (Kd.R_elder' (by (with_reducible repeat (first | apply Kd.R_alloc | apply Kd.R_drewN | apply Kd.R_drew)); exact HO577.out) (Kd.R_base ho104) hb); have n2_ := Aside0.mk (Kd.V_elder' (by (with_reducible repeat (first | apply Kd.V_alloc | apply Kd.V_drewN | apply Kd.V_drew)); exact HO571.out) (Kd.R_base ho104) hb); have n3_ := Aside0.mk (Kd.R_elder' (by (with_reducible repeat (first | apply Kd.R_alloc | apply Kd.R_drewN | apply Kd.R_drew)); exact HO574.out) (Kd.R_base ho104) hb); have n4_ := Aside0.mk (Kd.R_lower (Kd.R_new' (Kd.R_new' ho104 (Kd.R_lt (by (with_reducible repeat (first | apply Kd.R_alloc | apply Kd.R_drewN | apply Kd.R_drew)); exact HO577.out))) (Kd.R_lt (by (with_reducible repeat (first | apply Kd.R_alloc | apply Kd.R_drewN | apply Kd.R_drew)); exact HO574.out))) (below_size (by repeat (first | (with_reducible first | exact HB.out | apply below_alloc | apply pw_below_drewN | apply below_drew1) | exact HB.out)))); have n5_ := Aside0.mk (below_step (by repeat (first | (with_reducible first | exact HB.out | apply below_alloc | apply pw_below_drewN | apply below_drew1) | exact HB.out)) hb); clear HO_10; clear HO577; clear HO571; clear HO574; clear HB; have HO_10 := n0_; have HO577 := n1_; have HO571 := n2_; have HO574 := n3_; have HO580 := n4_; have HB := n5_; clear n0_ n1_ n2_ n3_ n4_ n5_; clear hb ho104; obtain ⟨Ao106, co106, eo106⟩ := Kd.R_slice HO580.out; subst eo106) | ((with_reducible refine gate_builtin (b := .append) (xs := #[.tmp 139, .tmp 141]) rfl ?_); at_builtin; refine Kd.R_append_rows Kd.string (w0 := w) w.heap.size rfl (.tmp 139) (.tmp 141) 37 9 (.string ⟨#[]⟩) 16 rfl Tryd.underlying37 info9 rfl (by decide) (by omega) (.slice Ao97 y575.length co97) y575 y578 _ _ _ (fun k_ => some k_ ≠ (v573 : Value).ownBlock ∧ some k_ ≠ (.slice Ao106 y578.length co106 : Value).ownBlock) (fun _ => False) rfl rfl ?aO ?aR (fun _ _ h => h) (fun _ h => h.elim) ?aF ?aB ?aS ?aL ?_; (case aR => repeat (first | exact (Kd.R_reads' HO580.out).2.2 | (with_reducible refine Kd.C_alloc ?_ _) | (with_reducible refine Kd.C_drewN ?_ _) | (with_reducible refine Kd.C_drew ?_))); (case aB => exact (by repeat (first | (with_reducible first | exact HB.out | apply below_alloc | apply pw_below_drewN | apply below_drew1) | exact HB.out))); (case aF => exact (fun k_ hk => ⟨Kd.fresh' (Kd.R_lt (by (with_reducible repeat (first | apply Kd.R_alloc | apply Kd.R_drewN | apply Kd.R_drew)); exact HO574.out)) k_ hk, Kd.fresh' (Kd.R_lt (by (with_reducible repeat (first | apply Kd.R_alloc | apply Kd.R_drewN | apply Kd.R_drew)); exact HO580.out)) k_ hk⟩)); (case aO => exact (by (with_reducible repeat (first | apply Kd.R_alloc | apply Kd.R_drewN | apply Kd.R_drew)); exact Kd.R_mono HO577.out (fun _ hk => ⟨(by first | exact hk.1.2 | (rw [own97]; exact hk.1.2)), (by first | exact hk.2 | (rw [own97]; exact hk.2))⟩))); (case aS => exact (below_size (by repeat (first | (with_reducible first | exact HB.out | apply below_alloc | apply pw_below_drewN | apply below_drew1) | exact HB.out)))); (case aL => have := LMc95.out; omega); intro v582 w105 ho hb hg hat; rw [← Ny581.out] at ho; have n0_ := Aside0.mk (Kd.N_afterv (ok := (fun k_ => some k_ ≠ (v573 : Value).ownBlock ∧ some k_ ≠ (.slice Ao106 y578.length co106 : Value).ownBlock)) (by (with_reducible repeat (first | apply Kd.N_alloc | apply Kd.N_drewN | apply Kd.N_drew)); exact Kd.N_mono HO_10.out (fun _ hk => ⟨⟨(by first | exact hk.1.2 | (rw [own97]; exact hk.1.2)), (by first | exact hk.2 | (rw [own97]; exact hk.2))⟩, (by first | exact hk.1.1 | (rw [own97]; exact hk.1.1))⟩)) hg hat); have n1_ := Aside0.mk (Kd.R_after (ok := (fun k_ => some k_ ≠ (.slice Ao106 y578.length co106 : Value).ownBlock)) (by (with_reducible repeat (first | apply Kd.R_alloc | apply Kd.R_drewN | apply Kd.R_drew)); exact Kd.R_mono HO574.out (fun _ hk => ⟨(by first | exact hk.2 | (rw [own97]; exact hk.2)), (by first | exact hk.1 | (rw [own97]; exact hk.1))⟩)) hg hat); have n2_ := Aside0.mk (Kd.R_after (ok := (fun k_ => some k_ ≠ (v573 : Value).ownBlock)) (by (with_reducible repeat (first | apply Kd.R_alloc | apply Kd.R_drewN | apply Kd.R_drew)); exact Kd.R_mono HO580.out (fun _ hk => ⟨(by first | exact hk.2 | (rw [own97]; exact hk.2)), (by first | exact hk.1.2 | (rw [own97]; exact hk.1.2))⟩)) hg hat); have n3_ := Aside0.mk (hb); have n4_ := Aside0.mk (ho); clear HO_10; clear HO574; clear HO580; clear HB; clear HO577; have HO_10 := n0_; have HO574 := n1_; have HO580 := n2_; have HB := n3_; have HO583 := n4_; clear n0_ n1_ n2_ n3_ n4_; clear ho hb hg hat; obtain ⟨Ao108, co108, eo108⟩ := Kd.R_slice HO574.out; subst eo108) | ((with_reducible refine gate_builtin (b := .append) (xs := #[.tmp 142, .tmp 143]) rfl ?_); at_builtin; refine Kd.R_append_rows Kd.string (w0 := w) w.heap.size rfl (.tmp 142) (.tmp 143) 37 9 (.string ⟨#[]⟩) 16 rfl Tryd.underlying37 info9 rfl (by decide) (by omega) v582 y581 y572 _ _ _ (fun k_ => some k_ ≠ (.slice Ao108 y572.length co108 : Value).ownBlock ∧ some k_ ≠ (.slice Ao106 y578.length co106 : Value).ownBlock) (fun _ => False) rfl rfl ?aO ?aR (fun _ _ h => h) (fun _ h => h.elim) ?aF ?aB ?aS ?aL ?_; (case aR => repeat (first | exact (Kd.R_reads' HO574.out).2.2 | (with_reducible refine Kd.C_alloc ?_ _) | (with_reducible refine Kd.C_drewN ?_ _) | (with_reducible refine Kd.C_drew ?_))); (case aB => exact (by repeat (first | (with_reducible first | exact HB.out | apply below_alloc | apply pw_below_drewN | apply below_drew1) | exact HB.out))); (case aF => exact (fun k_ hk => ⟨Kd.fresh' (Kd.R_lt (by (with_reducible repeat (first | apply Kd.R_alloc | apply Kd.R_drewN | apply Kd.R_drew)); exact HO574.out)) k_ hk, Kd.fresh' (Kd.R_lt (by (with_reducible repeat (first | apply Kd.R_alloc | apply Kd.R_drewN | apply Kd.R_drew)); exact HO580.out)) k_ hk⟩)); (case aO => exact (by (with_reducible repeat (first | apply Kd.R_alloc | apply Kd.R_drewN | apply Kd.R_drew)); exact HO583.out)); (case aS => exact (below_size (by repeat (first | (with_reducible first | exact HB.out | apply below_alloc | apply pw_below_drewN | apply below_drew1) | exact HB.out)))); (case aL => have := LMc96.out; omega); intro v585 w107 ho hb hg hat; rw [← Ny584.out] at ho; have n0_ := Aside0.mk (Kd.N_afterv (ok := (fun k_ => some k_ ≠ (.slice Ao108 y572.length co108 : Value).ownBlock ∧ some k_ ≠ (.slice Ao106 y578.length co106 : Value).ownBlock)) (by (with_reducible repeat (first | apply Kd.N_alloc | apply Kd.N_drewN | apply Kd.N_drew)); exact HO_10.out) hg hat); have n1_ := Aside0.mk (Kd.R_after (ok := (fun k_ => some k_ ≠ (.slice Ao106 y578.length co106 : Value).ownBlock)) (by (with_reducible repeat (first | apply Kd.R_alloc | apply Kd.R_drewN | apply Kd.R_drew)); exact HO574.out) hg hat); have n2_ := Aside0.mk (Kd.R_after (ok := (fun k_ => some k_ ≠ (.slice Ao108 y572.length co108 : Value).ownBlock)) (by (with_reducible repeat (first | apply Kd.R_alloc | apply Kd.R_drewN | apply Kd.R_drew)); exact HO580.out) hg hat); have n3_ := Aside0.mk (hb); have n4_ := Aside0.mk (ho); clear HO_10; clear HO574; clear HO580; clear HB; clear HO583; have HO_10 := n0_; have HO574 := n1_; have HO580 := n2_; have HB := n3_; have HO586 := n4_; clear n0_ n1_ n2_ n3_ n4_; clear ho hb hg hat))
                                          go_roundg k4
                                          case measure => have := HK1.out; have := HK2.out; have := HK3.out; have := HK4.out; omega
                                          case rel => exact ⟨(y584), (wrap64 (x17_3 + 1)), (by first | rfl | (simp; done) | (simp [*]; done)), H', ⟨by have := HK1.out; have := HK2.out; have := HK3.out; have := HK4.out; omega⟩, ⟨by (with_reducible repeat (first | apply Kd.N_alloc | apply Kd.N_drewN | apply Kd.N_drew)); exact Kd.N_mono HO_10.out (fun _ hk => hk.2)⟩, ⟨by (with_reducible repeat (first | apply Kd.R_alloc | apply Kd.R_drewN | apply Kd.R_drew)); exact Kd.R_mono HO586.out (fun _ hk => trivial)⟩, ⟨by repeat (first | (with_reducible first | exact HB.out | apply below_alloc | apply pw_below_drewN | apply below_drew1) | exact HB.out)⟩⟩
                                        · rw [if_neg c96] at H
                                          exact absurd H (by simp)
                                      · rw [if_neg c95] at H
                                        exact absurd H (by simp)
                                    · rw [if_neg c93] at H
                                      exact absurd H (by simp)
                                  · rw [if_neg c92] at H
                                    exact absurd H (by simp)
                                · rw [if_neg c91] at H
                                  exact absurd H (by simp)
                        · replace c65 := Bool.eq_false_iff.mpr c65
                          subst c65
                          have H1 : (spec_LengthenAll.l4 k3 x10_2 x16_3 (wrap64 (x17_3 + 1))) = some (r1, r2) := by rw [if_neg (show ¬ (false = true) by decide)] at H; exact H
                          clear H
                          have H := H1
                          clear H1
                          have H' := Aside0.mk H
                          clear H
                          obtain ⟨Ao109, co109, eo109⟩ := Kd.N_slice HO_10.out
                          subst eo109
                          have p536 : 0 ≤ (x17_3 : Int) := of_decide_eq_true (by first | (with_reducible assumption) | assumption)
                          have q536 : x17_3 < (x10_2.length : Int) := of_decide_eq_true (by first | (with_reducible assumption) | assumption)
                          obtain ⟨ad536, A536_0, c536_0, e536, hx536_0, hl536_0, hi536_0⟩ := at_L9 (Kd.N_reads' HO_10.out).2.2 x17_3 p536 q536
                          cases e536
                          obtain ⟨ce536, hce536, hMe536, hcc536⟩ := Kd.N_get HO_10.out [] x17_3 p536 (by first | exact q536 | exact of_decide_eq_true (by first | (with_reducible assumption) | assumption) | (have e_ := (Kd.N_reads' HO_10.out).1; omega))
                          obtain ⟨ua536_0, uc536_0, rfl, ul536_0, ge536_0⟩ := Kd.FK_slice_open hMe536
                          have hv536_0 := hcc536 0 _ rfl
                          rw [Nat.add_zero, show ((Kd.slice 9 Kd.string)).sz = 1 from rfl, Nat.mul_one] at hv536_0
                          replace hv536_0 := Option.some.inj (hv536_0.symm.trans hx536_0)
                          injection hv536_0 with hva_ hvn_ hvc_
                          rw [hva_] at ge536_0
                          rw [hvc_] at ul536_0
                          have HL536_0 := Aside0.mk (show Kd.V Kd.string 9 _ w.heap.size _ _ (rd_L9 x10_2 x17_3) from Kd.V_mk ul536_0 ge536_0)
                          clear hva_ hvn_ hvc_ ge536_0 ul536_0
                          clear hcc536 hce536
                          have HR536_0 := Aside0.mk hi536_0
                          have HC536_0 := Aside0.mk hl536_0
                          clear hi536_0 hl536_0
                          replace p536 := eq_true p536
                          replace q536 := eq_true q536
                          go_wp2_with (first | ((with_reducible refine gate_callee (f := 46) rfl ?_); refine goesL_ (some 102) rfl rfl Tryd.func46 (by kernel_rfl) rfl #[.slice A536_0 (rd_L9 x10_2 x17_3).length c536_0] rfl (by (try simp only [List.map_toArray, List.map_cons, List.map_nil]); first | done | rfl | (simp only [List.length_drop, List.length_take]; rfl)) ?_; (with_reducible refine (spec_l01Joined.calls k3 _ _ (rd_L9 x10_2 x17_3) t537 _ ?side1 ?side2 A63.out).mono ?_); (case side1 => repeat (first | exact (by repeat (first | (with_reducible exact HR536_0.out) | (with_reducible refine Kd.C_alloc ?_ _) | (with_reducible refine Kd.C_drewN ?_ _) | (with_reducible refine Kd.C_drew ?_) | exact HR536_0.out)) | (with_reducible refine Kd.C_alloc ?_ _) | (with_reducible refine Kd.C_drewN ?_ _) | (with_reducible refine Kd.C_drew ?_))); (case side2 => exact HC536_0.out); rintro e w' ⟨rfl, ⟨nd, rfl⟩⟩; refine ⟨_, rfl, ?_⟩) | ((with_reducible refine gate_callee (f := 54) rfl ?_); refine goesL_ (some 104) rfl rfl Tryd.func54 (by kernel_rfl) rfl #[.string t537] rfl (by (try simp only [List.map_toArray, List.map_cons, List.map_nil]); first | done | rfl | (simp only [List.length_drop, List.length_take]; rfl)) ?_; (with_reducible refine (spec_l01Text.calls k3 t537 false _ A64.out).mono ?_); rintro e w' ⟨rfl, ⟨nd, rfl⟩⟩; refine ⟨_, rfl, ?_⟩))
                          go_roundg k3
                          case measure => have := HK1.out; have := HK2.out; have := HK3.out; omega
                          case rel => exact ⟨(x16_3), (wrap64 (x17_3 + 1)), (by first | rfl | (simp; done) | (simp [*]; done)), H', ⟨by have := HK1.out; have := HK2.out; have := HK3.out; omega⟩, ⟨by (with_reducible repeat (first | apply Kd.N_alloc | apply Kd.N_drewN | apply Kd.N_drew)); exact HO_10.out⟩, ⟨by (with_reducible repeat (first | apply Kd.R_alloc | apply Kd.R_drewN | apply Kd.R_drew)); exact HO_16.out⟩, ⟨by repeat (first | (with_reducible first | exact HB.out | apply below_alloc | apply pw_below_drewN | apply below_drew1) | exact HB.out)⟩⟩
                      · rw [if_neg c62] at H
                        exact absurd H (by simp)
                    · rw [if_neg c61] at H
                      have c61b0 : decide (x17_3 < (x10_2.length : Int)) = false := decide_eq_false c61
                      clear c61
                      simp only [Option.some.injEq, Prod.mk.injEq] at H
                      obtain ⟨rfl, rfl⟩ := H
                      obtain ⟨Ao110, co110, eo110⟩ := Kd.N_slice HO_10.out
                      subst eo110
                      go_wp2
                      go_ret2
                      exact ⟨_, by first | rfl | (simp [errW_none, errW_some] <;> rfl) | (simp [*, errW_none, errW_some] <;> rfl), by (with_reducible repeat (first | apply Kd.R_alloc | apply Kd.R_drewN | apply Kd.R_drew)); exact HO_16.out, by repeat (first | (with_reducible first | exact HB.out | apply below_alloc | apply pw_below_drewN | apply below_drew1) | exact HB.out)⟩
  · rw [if_neg c4] at H
    have c4b0 : (t486 == 0) = false := beq_eq_false_iff_ne.mpr c4
    have c4b1 : (t486 != 0) = true := bne_iff_ne.mpr c4
    obtain ⟨y487, hy487⟩ : ∃ y_ : List ByteArray, y_ = (([] : List ByteArray)) := ⟨_, rfl⟩
    replace H : (some (y487, t486)) = some (r1, r2) := by first | (rw [hy487]; with_reducible exact H) | (have H2_ := (Option.bind_some _ _).symm.trans H; rw [hy487]; with_reducible exact H2_) | (have H2_ := (Option.bind_some _ _).symm.trans H; with_reducible exact H2_) | with_reducible exact H | (rw [hy487]; exact H) | exact H
    have Ny487 := Aside0.mk hy487
    clear hy487
    simp only [Option.some.injEq, Prod.mk.injEq] at H
    obtain ⟨rfl, rfl⟩ := H
    go_enter Tryd.func22, Tryd.ntmps22
    go_wp2_with (first | ((with_reducible refine gate_callee (f := 43) rfl ?_); refine goesL_ (some 23) rfl rfl Tryd.func43 (by kernel_rfl) rfl #[.string a0, .slice A1 l1.length c1] rfl (by (try simp only [List.map_toArray, List.map_cons, List.map_nil]); first | done | rfl | (simp only [List.length_drop, List.length_take]; rfl)) ?_; (with_reducible refine (spec_l02Asked.calls k a0 _ _ l1 t486 _ ?side1 ?side2 A3.out).mono ?_); (case side1 => repeat (first | exact HR1.out | (with_reducible refine Kd.C_alloc ?_ _) | (with_reducible refine Kd.C_drewN ?_ _) | (with_reducible refine Kd.C_drew ?_))); (case side2 => exact HC1.out); rintro e w111 ⟨rfl, hb⟩; refine ⟨_, rfl, ?_⟩; have n0_ := Aside0.mk (below_step (by repeat (first | (with_reducible first | exact HB.out | apply below_alloc | apply pw_below_drewN | apply below_drew1) | exact HB.out)) hb); clear HB; have HB := n0_; clear n0_; (try clear hb); (try clear hb2); (try clear hk); (try clear hi)) | ((with_reducible refine gate_dst (N := 26) rfl ?_); refine Kd.R_lit Kd.string _ 9 ?hg (N := 26) ?hd (xs := ([] : List ByteArray)) (inner := []) (ok := fun _ => True) (okp := fun _ => True) ?hr ?hp (fun _ hk => hk) trivial (Below.refl _ _) (Nat.le_refl _) (by simp) ?_; (case hd => rfl); (case hg => rfl); (case hr => first | (go_simp; done) | (go_simp; rfl)); (case hp => exact (Reps.none _ _)); intro v488 w112 ho113 hb hg_ hnew_; clear hg_ hnew_; (first | rw [← Ny487.out] at ho113 | (simp only [Int.reduceToNat] at ho113; rw [← Ny487.out] at ho113)); have n0_ := Aside0.mk (Kd.R_lower ho113 (below_size (by repeat (first | (with_reducible first | exact HB.out | apply below_alloc | apply pw_below_drewN | apply below_drew1) | exact HB.out)))); have n1_ := Aside0.mk (below_step (by repeat (first | (with_reducible first | exact HB.out | apply below_alloc | apply pw_below_drewN | apply below_drew1) | exact HB.out)) hb); clear HB; have HO489 := n0_; have HB := n1_; clear n0_ n1_; clear hb ho113))
    go_ret2
    exact ⟨_, by first | rfl | (simp [errW_none, errW_some] <;> rfl) | (simp [*, errW_none, errW_some] <;> rfl), by (with_reducible repeat (first | apply Kd.R_alloc | apply Kd.R_drewN | apply Kd.R_drew)); exact HO489.out, by repeat (first | (with_reducible first | exact HB.out | apply below_alloc | apply pw_below_drewN | apply below_drew1) | exact HB.out)⟩

end Go.Proofs.YtiapaggkbhdnkaaDoor.Q
