-- WRITTEN BY A PROGRAM OF THIS SESSION (xprint.py, which runs the kit's printer with changes). Lean checks it.
import Derived.Test.YtiapaggkbhdnkaaDoorQ0
import Derived.Test.YtiapaggkbhdnkaaDoorGlobF
import Derived.Test.YtiapaggkbhdnkaaDoorQimplValidShorts
import Derived.Test.YtiapaggkbhdnkaaDoorQimplValidText
import Derived.Test.YtiapaggkbhdnkaaDoorQlibCloneT
import Derived.Test.YtiapaggkbhdnkaaDoorQlibF
import Derived.Test.YtiapaggkbhdnkaaDoorQlibJ
import Derived.Test.YtiapaggkbhdnkaaDoorQlibSortT
namespace Go.Proofs.YtiapaggkbhdnkaaDoor.Q
open Go.RowKit Go.Proofs.YtiapaggkbhdnkaaDoorW.PrintWords Go.Proofs.YtiapaggkbhdnkaaDoorW.PrintLast Go.Proofs.YtiapaggkbhdnkaaDoorW.PrintMore
set_option linter.unusedVariables false
set_option linter.unusedSimpArgs false
attribute [local go_sem] max2_int min2_int max_two min_two max_three min_three max_four min_four   -- for this text's walks alone
/-! ### impl_LengthenAll: function 23 -/
mutual
def impl_LengthenAll.j0 : Nat → ByteArray → List (S51) → Bool → Option (List ByteArray × Int)
  | 0, _, _, _ => none
  | k + 1, x0, x1, x28 => if x28 = true then (some (([] : List ByteArray), 1)) else ((strings_Fields.f x0).bind fun t711 => (impl_LengthenAll.l0 k x1 (([[]] : List (List ByteArray))) t711 (t711.length : Int) 0))
def impl_LengthenAll.l0 : Nat → List (S51) → List (List ByteArray) → List ByteArray → Int → Int → Option (List ByteArray × Int)
  | 0, _, _, _, _, _ => none
  | k + 1, x1, x6, x31, x32, x33 => if x33 < x32 then (if 0 ≤ x33 then (if x33 < (x31.length : Int) then (impl_LengthenAll.l1 k x1 x6 (rdOf ByteArray.empty x31 x33) (([rdOf ByteArray.empty x31 x33] : List ByteArray)) x31 x32 x33 x1 (x1.length : Int) 0) else (none)) else (none)) else (impl_LengthenAll.l4 k (([] : List ByteArray)) x6 (x6.length : Int) 0)
def impl_LengthenAll.l1 : Nat → List (S51) → List (List ByteArray) → ByteArray → List ByteArray → List ByteArray → Int → Int → List (S51) → Int → Int → Option (List ByteArray × Int)
  | 0, _, _, _, _, _, _, _, _, _, _ => none
  | k + 1, x1, x6, x8, x9, x31, x32, x33, x39, x40, x41 => if x41 < x40 then (if 0 ≤ x41 then (if x41 < (x39.length : Int) then (if ((rd_T51 x39 x41).f1).toList = x8.toList then (if x9.length < 8796093022208 then (impl_LengthenAll.l1 k x1 x6 x8 (x9 ++ [(rd_T51 x39 x41).f0]) x31 x32 x33 x39 x40 (wrap64 (x41 + 1))) else (none)) else (impl_LengthenAll.l1 k x1 x6 x8 x9 x31 x32 x33 x39 x40 (wrap64 (x41 + 1)))) else (none)) else (none)) else (impl_LengthenAll.l2 k x1 x9 (([] : List (List ByteArray))) x31 x32 x33 x6 (x6.length : Int) 0)
def impl_LengthenAll.l2 : Nat → List (S51) → List ByteArray → List (List ByteArray) → List ByteArray → Int → Int → List (List ByteArray) → Int → Int → Option (List ByteArray × Int)
  | 0, _, _, _, _, _, _, _, _, _ => none
  | k + 1, x1, x9, x12, x31, x32, x33, x56, x57, x58 => if x58 < x57 then (if 0 ≤ x58 then (if x58 < (x56.length : Int) then (impl_LengthenAll.l3 k x1 x9 x12 (rd_L9 x56 x58) x31 x32 x33 x56 x57 x58 x9 (x9.length : Int) 0) else (none)) else (none)) else (if (x12.length : Int) > 200 then (some (([] : List ByteArray), 3)) else (impl_LengthenAll.l0 k x1 x12 x31 x32 (wrap64 (x33 + 1))))
def impl_LengthenAll.l3 : Nat → List (S51) → List ByteArray → List (List ByteArray) → List ByteArray → List ByteArray → Int → Int → List (List ByteArray) → Int → Int → List ByteArray → Int → Int → Option (List ByteArray × Int)
  | 0, _, _, _, _, _, _, _, _, _, _, _, _, _ => none
  | k + 1, x1, x9, x12, x14, x31, x32, x33, x56, x57, x58, x62, x63, x64 => if x64 < x63 then (if 0 ≤ x64 then (if x64 < (x62.length : Int) then ((slices_Clone_string.f x14).bind fun t728 => (if t728.length < 8796093022208 then (if x12.length < 5864062014805 then (impl_LengthenAll.l3 k x1 x9 (x12 ++ [(t728 ++ [rdOf ByteArray.empty x62 x64])]) x14 x31 x32 x33 x56 x57 x58 x62 x63 (wrap64 (x64 + 1))) else (none)) else (none))) else (none)) else (none)) else (impl_LengthenAll.l2 k x1 x9 x12 x31 x32 x33 x56 x57 (wrap64 (x58 + 1)))
def impl_LengthenAll.l4 : Nat → List ByteArray → List (List ByteArray) → Int → Int → Option (List ByteArray × Int)
  | 0, _, _, _, _ => none
  | k + 1, x17, x84, x85, x86 => if x86 < x85 then (if 0 ≤ x86 then (if x86 < (x84.length : Int) then ((strings_Join.f (rd_L9 x84 x86) (⟨#[32]⟩ : ByteArray)).bind fun t741 => (if (t741.size : Int) ≤ 60 then (if x17.length < 8796093022208 then (impl_LengthenAll.l4 k (x17 ++ [t741]) x84 x85 (wrap64 (x86 + 1))) else (none)) else (impl_LengthenAll.l4 k x17 x84 x85 (wrap64 (x86 + 1))))) else (none)) else (none)) else ((slices_Sort_string.f x17).bind fun t745 => ((slices_Compact_string.f t745).bind fun t746 => (some (t746, 0))))
end
def impl_LengthenAll.f (k : Nat) (a0 : ByteArray) (l1 : List (S51)) : Option (List ByteArray × Int) := (impl_ValidText.f k a0).bind fun t706 => (if t706 = true then ((impl_ValidShorts.f k l1).bind fun t707 => (impl_LengthenAll.j0 k a0 l1 (!t707))) else (impl_LengthenAll.j0 k a0 l1 true))
theorem impl_LengthenAll.mono_l : ∀ k, (∀ y0 y1 y2, LeO (impl_LengthenAll.j0 k y0 y1 y2) (impl_LengthenAll.j0 (k + 1) y0 y1 y2)) ∧ (∀ y0 y1 y2 y3 y4, LeO (impl_LengthenAll.l0 k y0 y1 y2 y3 y4) (impl_LengthenAll.l0 (k + 1) y0 y1 y2 y3 y4)) ∧ (∀ y0 y1 y2 y3 y4 y5 y6 y7 y8 y9, LeO (impl_LengthenAll.l1 k y0 y1 y2 y3 y4 y5 y6 y7 y8 y9) (impl_LengthenAll.l1 (k + 1) y0 y1 y2 y3 y4 y5 y6 y7 y8 y9)) ∧ (∀ y0 y1 y2 y3 y4 y5 y6 y7 y8, LeO (impl_LengthenAll.l2 k y0 y1 y2 y3 y4 y5 y6 y7 y8) (impl_LengthenAll.l2 (k + 1) y0 y1 y2 y3 y4 y5 y6 y7 y8)) ∧ (∀ y0 y1 y2 y3 y4 y5 y6 y7 y8 y9 y10 y11 y12, LeO (impl_LengthenAll.l3 k y0 y1 y2 y3 y4 y5 y6 y7 y8 y9 y10 y11 y12) (impl_LengthenAll.l3 (k + 1) y0 y1 y2 y3 y4 y5 y6 y7 y8 y9 y10 y11 y12)) ∧ (∀ y0 y1 y2 y3, LeO (impl_LengthenAll.l4 k y0 y1 y2 y3) (impl_LengthenAll.l4 (k + 1) y0 y1 y2 y3))
  | 0 => ⟨fun _ _ _ r h => by simp [impl_LengthenAll.j0] at h, fun _ _ _ _ _ r h => by simp [impl_LengthenAll.l0] at h, fun _ _ _ _ _ _ _ _ _ _ r h => by simp [impl_LengthenAll.l1] at h, fun _ _ _ _ _ _ _ _ _ r h => by simp [impl_LengthenAll.l2] at h, fun _ _ _ _ _ _ _ _ _ _ _ _ _ r h => by simp [impl_LengthenAll.l3] at h, fun _ _ _ _ r h => by simp [impl_LengthenAll.l4] at h⟩
  | k + 1 => by
    obtain ⟨ih0, ih1, ih2, ih3, ih4, ih5⟩ := impl_LengthenAll.mono_l k
    refine ⟨?_, ?_, ?_, ?_, ?_, ?_⟩
    · intro y0 y1 y2
      unfold impl_LengthenAll.j0
      repeat' first
      | (with_reducible exact ih0 _ _ _)
      | (with_reducible exact ih1 _ _ _ _ _)
      | (with_reducible exact ih2 _ _ _ _ _ _ _ _ _ _)
      | (with_reducible exact ih3 _ _ _ _ _ _ _ _ _)
      | (with_reducible exact ih4 _ _ _ _ _ _ _ _ _ _ _ _ _)
      | (with_reducible exact ih5 _ _ _ _)
      | (with_reducible exact impl_ValidShorts.mono _ _)
      | (with_reducible exact impl_ValidText.mono _ _)
      | (with_reducible exact LeO.refl _)
      | (with_reducible exact LeO.none _)
      | (with_reducible refine LeO.ite ?_ ?_)
      | (with_reducible refine LeO.bind ?_ (fun _ => ?_))
      | exact ih0 _ _ _
      | exact ih1 _ _ _ _ _
      | exact ih2 _ _ _ _ _ _ _ _ _ _
      | exact ih3 _ _ _ _ _ _ _ _ _
      | exact ih4 _ _ _ _ _ _ _ _ _ _ _ _ _
      | exact ih5 _ _ _ _
      | exact impl_ValidShorts.mono _ _
      | exact impl_ValidText.mono _ _
      | exact LeO.none _
      | refine LeO.ite ?_ ?_
      | refine LeO.bind ?_ (fun _ => ?_)
    · intro y0 y1 y2 y3 y4
      unfold impl_LengthenAll.l0
      repeat' first
      | (with_reducible exact ih0 _ _ _)
      | (with_reducible exact ih1 _ _ _ _ _)
      | (with_reducible exact ih2 _ _ _ _ _ _ _ _ _ _)
      | (with_reducible exact ih3 _ _ _ _ _ _ _ _ _)
      | (with_reducible exact ih4 _ _ _ _ _ _ _ _ _ _ _ _ _)
      | (with_reducible exact ih5 _ _ _ _)
      | (with_reducible exact impl_ValidShorts.mono _ _)
      | (with_reducible exact impl_ValidText.mono _ _)
      | (with_reducible exact LeO.refl _)
      | (with_reducible exact LeO.none _)
      | (with_reducible refine LeO.ite ?_ ?_)
      | (with_reducible refine LeO.bind ?_ (fun _ => ?_))
      | exact ih0 _ _ _
      | exact ih1 _ _ _ _ _
      | exact ih2 _ _ _ _ _ _ _ _ _ _
      | exact ih3 _ _ _ _ _ _ _ _ _
      | exact ih4 _ _ _ _ _ _ _ _ _ _ _ _ _
      | exact ih5 _ _ _ _
      | exact impl_ValidShorts.mono _ _
      | exact impl_ValidText.mono _ _
      | exact LeO.none _
      | refine LeO.ite ?_ ?_
      | refine LeO.bind ?_ (fun _ => ?_)
    · intro y0 y1 y2 y3 y4 y5 y6 y7 y8 y9
      unfold impl_LengthenAll.l1
      repeat' first
      | (with_reducible exact ih0 _ _ _)
      | (with_reducible exact ih1 _ _ _ _ _)
      | (with_reducible exact ih2 _ _ _ _ _ _ _ _ _ _)
      | (with_reducible exact ih3 _ _ _ _ _ _ _ _ _)
      | (with_reducible exact ih4 _ _ _ _ _ _ _ _ _ _ _ _ _)
      | (with_reducible exact ih5 _ _ _ _)
      | (with_reducible exact impl_ValidShorts.mono _ _)
      | (with_reducible exact impl_ValidText.mono _ _)
      | (with_reducible exact LeO.refl _)
      | (with_reducible exact LeO.none _)
      | (with_reducible refine LeO.ite ?_ ?_)
      | (with_reducible refine LeO.bind ?_ (fun _ => ?_))
      | exact ih0 _ _ _
      | exact ih1 _ _ _ _ _
      | exact ih2 _ _ _ _ _ _ _ _ _ _
      | exact ih3 _ _ _ _ _ _ _ _ _
      | exact ih4 _ _ _ _ _ _ _ _ _ _ _ _ _
      | exact ih5 _ _ _ _
      | exact impl_ValidShorts.mono _ _
      | exact impl_ValidText.mono _ _
      | exact LeO.none _
      | refine LeO.ite ?_ ?_
      | refine LeO.bind ?_ (fun _ => ?_)
    · intro y0 y1 y2 y3 y4 y5 y6 y7 y8
      unfold impl_LengthenAll.l2
      repeat' first
      | (with_reducible exact ih0 _ _ _)
      | (with_reducible exact ih1 _ _ _ _ _)
      | (with_reducible exact ih2 _ _ _ _ _ _ _ _ _ _)
      | (with_reducible exact ih3 _ _ _ _ _ _ _ _ _)
      | (with_reducible exact ih4 _ _ _ _ _ _ _ _ _ _ _ _ _)
      | (with_reducible exact ih5 _ _ _ _)
      | (with_reducible exact impl_ValidShorts.mono _ _)
      | (with_reducible exact impl_ValidText.mono _ _)
      | (with_reducible exact LeO.refl _)
      | (with_reducible exact LeO.none _)
      | (with_reducible refine LeO.ite ?_ ?_)
      | (with_reducible refine LeO.bind ?_ (fun _ => ?_))
      | exact ih0 _ _ _
      | exact ih1 _ _ _ _ _
      | exact ih2 _ _ _ _ _ _ _ _ _ _
      | exact ih3 _ _ _ _ _ _ _ _ _
      | exact ih4 _ _ _ _ _ _ _ _ _ _ _ _ _
      | exact ih5 _ _ _ _
      | exact impl_ValidShorts.mono _ _
      | exact impl_ValidText.mono _ _
      | exact LeO.none _
      | refine LeO.ite ?_ ?_
      | refine LeO.bind ?_ (fun _ => ?_)
    · intro y0 y1 y2 y3 y4 y5 y6 y7 y8 y9 y10 y11 y12
      unfold impl_LengthenAll.l3
      repeat' first
      | (with_reducible exact ih0 _ _ _)
      | (with_reducible exact ih1 _ _ _ _ _)
      | (with_reducible exact ih2 _ _ _ _ _ _ _ _ _ _)
      | (with_reducible exact ih3 _ _ _ _ _ _ _ _ _)
      | (with_reducible exact ih4 _ _ _ _ _ _ _ _ _ _ _ _ _)
      | (with_reducible exact ih5 _ _ _ _)
      | (with_reducible exact impl_ValidShorts.mono _ _)
      | (with_reducible exact impl_ValidText.mono _ _)
      | (with_reducible exact LeO.refl _)
      | (with_reducible exact LeO.none _)
      | (with_reducible refine LeO.ite ?_ ?_)
      | (with_reducible refine LeO.bind ?_ (fun _ => ?_))
      | exact ih0 _ _ _
      | exact ih1 _ _ _ _ _
      | exact ih2 _ _ _ _ _ _ _ _ _ _
      | exact ih3 _ _ _ _ _ _ _ _ _
      | exact ih4 _ _ _ _ _ _ _ _ _ _ _ _ _
      | exact ih5 _ _ _ _
      | exact impl_ValidShorts.mono _ _
      | exact impl_ValidText.mono _ _
      | exact LeO.none _
      | refine LeO.ite ?_ ?_
      | refine LeO.bind ?_ (fun _ => ?_)
    · intro y0 y1 y2 y3
      unfold impl_LengthenAll.l4
      repeat' first
      | (with_reducible exact ih0 _ _ _)
      | (with_reducible exact ih1 _ _ _ _ _)
      | (with_reducible exact ih2 _ _ _ _ _ _ _ _ _ _)
      | (with_reducible exact ih3 _ _ _ _ _ _ _ _ _)
      | (with_reducible exact ih4 _ _ _ _ _ _ _ _ _ _ _ _ _)
      | (with_reducible exact ih5 _ _ _ _)
      | (with_reducible exact impl_ValidShorts.mono _ _)
      | (with_reducible exact impl_ValidText.mono _ _)
      | (with_reducible exact LeO.refl _)
      | (with_reducible exact LeO.none _)
      | (with_reducible refine LeO.ite ?_ ?_)
      | (with_reducible refine LeO.bind ?_ (fun _ => ?_))
      | exact ih0 _ _ _
      | exact ih1 _ _ _ _ _
      | exact ih2 _ _ _ _ _ _ _ _ _ _
      | exact ih3 _ _ _ _ _ _ _ _ _
      | exact ih4 _ _ _ _ _ _ _ _ _ _ _ _ _
      | exact ih5 _ _ _ _
      | exact impl_ValidShorts.mono _ _
      | exact impl_ValidText.mono _ _
      | exact LeO.none _
      | refine LeO.ite ?_ ?_
      | refine LeO.bind ?_ (fun _ => ?_)
theorem impl_LengthenAll.mono : ∀ a0 a1 k, LeO (impl_LengthenAll.f k a0 a1) (impl_LengthenAll.f (k + 1) a0 a1) := by
  intro a0 a1 k
  obtain ⟨ih0, ih1, ih2, ih3, ih4, ih5⟩ := impl_LengthenAll.mono_l k
  unfold impl_LengthenAll.f
  repeat' first
      | (with_reducible exact ih0 _ _ _)
      | (with_reducible exact ih1 _ _ _ _ _)
      | (with_reducible exact ih2 _ _ _ _ _ _ _ _ _ _)
      | (with_reducible exact ih3 _ _ _ _ _ _ _ _ _)
      | (with_reducible exact ih4 _ _ _ _ _ _ _ _ _ _ _ _ _)
      | (with_reducible exact ih5 _ _ _ _)
      | (with_reducible exact impl_ValidShorts.mono _ _)
      | (with_reducible exact impl_ValidText.mono _ _)
      | (with_reducible exact LeO.refl _)
      | (with_reducible exact LeO.none _)
      | (with_reducible refine LeO.ite ?_ ?_)
      | (with_reducible refine LeO.bind ?_ (fun _ => ?_))
      | exact ih0 _ _ _
      | exact ih1 _ _ _ _ _
      | exact ih2 _ _ _ _ _ _ _ _ _ _
      | exact ih3 _ _ _ _ _ _ _ _ _
      | exact ih4 _ _ _ _ _ _ _ _ _ _ _ _ _
      | exact ih5 _ _ _ _
      | exact impl_ValidShorts.mono _ _
      | exact impl_ValidText.mono _ _
      | exact LeO.none _
      | refine LeO.ite ?_ ?_
      | refine LeO.bind ?_ (fun _ => ?_)
set_option maxHeartbeats 8000000 in
set_option maxRecDepth 100000 in
theorem impl_LengthenAll.calls (k : Nat) (a0 : ByteArray) (A1 : Option Addr) (c1 : Nat) (l1 : List (S51)) (r1 : List ByteArray) (r2 : Int) (w : World) (hG_ : GlobF w) (hr1 : Kd.C k51 w A1 l1.length l1) (hc1 : l1.length ≤ c1) (h : impl_LengthenAll.f k a0 l1 = some (r1, r2)) :
    Calls Tryd.prog 23 #[.string a0, .slice A1 l1.length c1] w fun e w' => ∃ v0_ : Value, e = .returned (.tuple #[v0_, .int .i64 r2]) ∧ Kd.R Kd.string 9 w' w.heap.size (fun _ => True) v0_ r1 ∧ Below w.heap.size w w' := by
  have hu51 := Tryd.underlying51
  have HR1 := Aside0.mk hr1
  have HC1 := Aside0.mk hc1
  clear hr1 hc1
  have HB := Aside0.mk (Below.refl w.heap.size w)
  have H : ((impl_ValidText.f k a0).bind fun t706 => (if t706 = true then ((impl_ValidShorts.f k l1).bind fun t707 => (impl_LengthenAll.j0 k a0 l1 (!t707))) else (impl_LengthenAll.j0 k a0 l1 true))) = some (r1, r2) := h
  clear h
  have HC3 := Aside0.mk H
  clear H
  go_enter Tryd.func23, Tryd.ntmps23
  go_upto_region 1 with (fail)
  go_cut [28] (fun v28 wc => ∃ (kq : Nat) (x28_2 : Bool), v28 = .bool x28_2 ∧ Aside0 (impl_LengthenAll.j0 kq a0 l1 x28_2 = some (r1, r2)) ∧ Aside0 (kq ≤ k) ∧ Aside0 (Below w.heap.size w wc))
  case first =>
    have H := HC3.out
    clear HC3
    replace H := Option.bind_eq_some_iff.mp H
    obtain ⟨t706, A40, H⟩ := H
    replace H : (if t706 = true then ((impl_ValidShorts.f k l1).bind fun t707 => (impl_LengthenAll.j0 k a0 l1 (!t707))) else (impl_LengthenAll.j0 k a0 l1 true)) = some (r1, r2) := H
    have A4 := Aside0.mk A40
    clear A40
    by_cases c5 : t706 = true
    · subst c5
      have H1 : ((impl_ValidShorts.f k l1).bind fun t707 => (impl_LengthenAll.j0 k a0 l1 (!t707))) = some (r1, r2) := by rw [if_pos rfl] at H; exact H
      clear H
      have H := H1
      clear H1
      replace H := Option.bind_eq_some_iff.mp H
      obtain ⟨t707, A60, H⟩ := H
      replace H : (impl_LengthenAll.j0 k a0 l1 (!t707)) = some (r1, r2) := H
      have A6 := Aside0.mk A60
      clear A60
      have H' := Aside0.mk H
      clear H
      go_wp2_with (first | ((with_reducible refine gate_callee (f := 48) rfl ?_); refine goesL_ (some 22) rfl rfl Tryd.func48 (by kernel_rfl) rfl #[.string a0] rfl (by (try simp only [List.map_toArray, List.map_cons, List.map_nil]); first | done | rfl | (simp only [List.length_drop, List.length_take]; rfl)) ?_; (with_reducible refine (impl_ValidText.calls k a0 true _ ?side1 A4.out).mono ?_); (case side1 => refine Glob.step hG_.glob ?_; repeat (first | (with_reducible first | exact HB.out | apply below_alloc | apply pw_below_drewN | apply below_drew1) | exact HB.out)); rintro e w7 ⟨rfl, hb⟩; refine ⟨_, rfl, ?_⟩; have n0_ := Aside0.mk (below_step (by repeat (first | (with_reducible first | exact HB.out | apply below_alloc | apply pw_below_drewN | apply below_drew1) | exact HB.out)) hb); clear HB; have HB := n0_; clear n0_; (try clear hb); (try clear hb2); (try clear hk); (try clear hi)) | (go_at_call 12; (with_reducible refine (impl_ValidShorts.calls k _ _ l1 t707 _ ?side1 ?side2 ?side3 A6.out).mono ?_); (case side1 => refine Glob.step hG_.glob ?_; repeat (first | (with_reducible first | exact HB.out | apply below_alloc | apply pw_below_drewN | apply below_drew1) | exact HB.out)); (case side2 => repeat (first | exact (Kd.C_below HR1.out HB.out) | (with_reducible refine Kd.C_alloc ?_ _) | (with_reducible refine Kd.C_drewN ?_ _) | (with_reducible refine Kd.C_drew ?_))); (case side3 => exact HC1.out); rintro e w8 ⟨rfl, hb⟩; have n0_ := Aside0.mk (below_step (by repeat (first | (with_reducible first | exact HB.out | apply below_alloc | apply pw_below_drewN | apply below_drew1) | exact HB.out)) hb); clear HB; have HB := n0_; clear n0_; (try clear hb); (try clear hb2); (try clear hk); (try clear hi)))
      go_meet
      case rel => exact ⟨_, (!t707), (by first | rfl | (simp; done) | (simp [*]; done)), H', ⟨by first | omega | exact Nat.le_refl _⟩, ⟨by repeat (first | (with_reducible first | exact HB.out | apply below_alloc | apply pw_below_drewN | apply below_drew1) | exact HB.out)⟩⟩
    · replace c5 := Bool.eq_false_iff.mpr c5
      subst c5
      have H1 : (impl_LengthenAll.j0 k a0 l1 true) = some (r1, r2) := by rw [if_neg (show ¬ (false = true) by decide)] at H; exact H
      clear H
      have H := H1
      clear H1
      have H' := Aside0.mk H
      clear H
      go_wp2_with (first | ((with_reducible refine gate_callee (f := 48) rfl ?_); refine goesL_ (some 22) rfl rfl Tryd.func48 (by kernel_rfl) rfl #[.string a0] rfl (by (try simp only [List.map_toArray, List.map_cons, List.map_nil]); first | done | rfl | (simp only [List.length_drop, List.length_take]; rfl)) ?_; (with_reducible refine (impl_ValidText.calls k a0 false _ ?side1 A4.out).mono ?_); (case side1 => refine Glob.step hG_.glob ?_; repeat (first | (with_reducible first | exact HB.out | apply below_alloc | apply pw_below_drewN | apply below_drew1) | exact HB.out)); rintro e w9 ⟨rfl, hb⟩; refine ⟨_, rfl, ?_⟩; have n0_ := Aside0.mk (below_step (by repeat (first | (with_reducible first | exact HB.out | apply below_alloc | apply pw_below_drewN | apply below_drew1) | exact HB.out)) hb); clear HB; have HB := n0_; clear n0_; (try clear hb); (try clear hb2); (try clear hk); (try clear hi)))
      go_meet
      case rel => exact ⟨_, (true), (by first | rfl | (simp; done) | (simp [*]; done)), H', ⟨by first | omega | exact Nat.le_refl _⟩, ⟨by repeat (first | (with_reducible first | exact HB.out | apply below_alloc | apply pw_below_drewN | apply below_drew1) | exact HB.out)⟩⟩
  case rest =>
    clear HC3
    try clear c1
    try clear c2
    try clear p2
    try clear c4
    try clear c5
    obtain ⟨kq, x28_2, rfl, HA, HJ2, HB⟩ := hcut
    cases kq with
    | zero => exact absurd HA.out (by simp [impl_LengthenAll.j0])
    | succ kj2 =>
      have H := HA.out
      clear HA
      simp only [impl_LengthenAll.j0] at H
      by_cases c10 : x28_2 = true
      · subst c10
        have H1 : (some (([] : List ByteArray), 1)) = some (r1, r2) := by rw [if_pos rfl] at H; exact H
        clear H
        have H := H1
        clear H1
        simp only [Option.some.injEq, Prod.mk.injEq] at H
        obtain ⟨rfl, rfl⟩ := H
        go_wp2
        go_ret2
        exact ⟨_, by first | rfl | (simp [errW_none, errW_some] <;> rfl) | (simp [*, errW_none, errW_some] <;> rfl), by first | exact Kd.R_nil _ _ _ _ _ | exact Kd.N_nil _ _ _ _ _ | exact Kd.V_nil _ _ _ _ _ | exact Kd.Q_nil _ _ _ _ _ | exact Kd.S_nil _ _ _ _ _, by repeat (first | (with_reducible first | exact HB.out | apply below_alloc | apply pw_below_drewN | apply below_drew1) | exact HB.out)⟩
      · replace c10 := Bool.eq_false_iff.mpr c10
        subst c10
        have H1 : ((strings_Fields.f a0).bind fun t711 => (impl_LengthenAll.l0 kj2 l1 (([[]] : List (List ByteArray))) t711 (t711.length : Int) 0)) = some (r1, r2) := by rw [if_neg (show ¬ (false = true) by decide)] at H; exact H
        clear H
        have H := H1
        clear H1
        obtain ⟨y708, hy708⟩ : ∃ y_ : List (List ByteArray), y_ = (([[]] : List (List ByteArray))) := ⟨_, rfl⟩
        replace H : ((strings_Fields.f a0).bind fun t711 => (impl_LengthenAll.l0 kj2 l1 y708 t711 (t711.length : Int) 0)) = some (r1, r2) := by first | (rw [hy708]; with_reducible exact H) | (have H2_ := (Option.bind_some _ _).symm.trans H; rw [hy708]; with_reducible exact H2_) | (have H2_ := (Option.bind_some _ _).symm.trans H; with_reducible exact H2_) | with_reducible exact H | (rw [hy708]; exact H) | exact H
        have Ny708 := Aside0.mk hy708
        clear hy708
        replace H := Option.bind_eq_some_iff.mp H
        obtain ⟨t711, A110, H⟩ := H
        replace H : (impl_LengthenAll.l0 kj2 l1 y708 t711 (t711.length : Int) 0) = some (r1, r2) := H
        have A11 := Aside0.mk A110
        clear A110
        have H' := Aside0.mk H
        clear H
        go_wp2_with (first | ((with_reducible refine gate_dst (N := 29) rfl ?_); refine Kd.S_lit (Kd.slice 9 Kd.string) _ 37 ?hg (N := 29) ?hd (xs := ([[]] : List (List ByteArray))) (inner := [.slice none 0 0]) (ok := fun _ => True) (okp := fun _ => True) ?hr ?hp (fun _ hk => hk) trivial (Below.refl _ _) (Nat.le_refl _) (by simp) ?_; (case hd => rfl); (case hg => rfl); (case hr => first | (go_simp; done) | (go_simp; rfl)); (case hp => exact (Reps.one (show Kd.M (Kd.slice 9 Kd.string) _ _ _ [] [.slice none 0 0] from ⟨_, rfl, Kd.R_nil _ _ _ _ _⟩) (Reps.none _ _))); intro v709 w12 ho13 hb hg_ hnew_; clear hg_ hnew_; (first | rw [← Ny708.out] at ho13 | (simp only [Int.reduceToNat] at ho13; rw [← Ny708.out] at ho13)); have n0_ := Aside0.mk (Kd.S_lower ho13 (below_size (by repeat (first | (with_reducible first | exact HB.out | apply below_alloc | apply pw_below_drewN | apply below_drew1) | exact HB.out)))); have n1_ := Aside0.mk (below_step (by repeat (first | (with_reducible first | exact HB.out | apply below_alloc | apply pw_below_drewN | apply below_drew1) | exact HB.out)) hb); clear HB; have HO710 := n0_; have HB := n1_; clear n0_ n1_; clear hb ho13) | ((with_reducible refine gate_callee (f := 49) rfl ?_); refine goesL_ (some 31) rfl rfl Tryd.func49 (by kernel_rfl) rfl #[.string a0] rfl (by (try simp only [List.map_toArray, List.map_cons, List.map_nil]); first | done | rfl | (simp only [List.length_drop, List.length_take]; rfl)) ?_; (with_reducible refine (strings_Fields.calls a0 t711 _ ?side1 A11.out).mono ?_); (case side1 => refine GlobF.step hG_ ?_; repeat (first | (with_reducible first | exact HB.out | apply below_alloc | apply pw_below_drewN | apply below_drew1) | exact HB.out)); rintro e w14 ⟨v712, rfl, ho0, hb⟩; refine ⟨_, rfl, ?_⟩; have n0_ := Aside0.mk (Kd.S_elder' (by (with_reducible repeat (first | apply Kd.S_alloc | apply Kd.S_drewN | apply Kd.S_drew)); exact HO710.out) (Kd.R_base ho0) hb); have n1_ := Aside0.mk (Kd.R_lower ho0 (below_size (by repeat (first | (with_reducible first | exact HB.out | apply below_alloc | apply pw_below_drewN | apply below_drew1) | exact HB.out)))); have n2_ := Aside0.mk (below_step (by repeat (first | (with_reducible first | exact HB.out | apply below_alloc | apply pw_below_drewN | apply below_drew1) | exact HB.out)) hb); clear HO710; clear HB; have HO710 := n0_; have HO713 := n1_; have HB := n2_; clear n0_ n1_ n2_; (try clear hb); (try clear hb2); (try clear hk); (try clear hi); (try clear ho0); obtain ⟨Ao15, co15, eo15⟩ := Kd.R_slice HO713.out; subst eo15))
        go_loopg [6, 33] kj2 (fun kq v6 v33 w' => ∃ (x6_2 : List (List ByteArray)) (x33_2 : Int), v33 = .int .i64 x33_2 ∧ Aside0 (impl_LengthenAll.l0 kq l1 x6_2 t711 (t711.length : Int) x33_2 = some (r1, r2)) ∧ Aside0 (kq ≤ kj2) ∧ Aside0 (Kd.S (Kd.slice 9 Kd.string) 37 w' w.heap.size (fun k_ => some k_ ≠ ((.slice Ao15 t711.length co15) : Value).ownBlock) v6 x6_2) ∧ Aside0 (Kd.R Kd.string 9 w' w.heap.size (fun _ => True) (.slice Ao15 t711.length co15) t711) ∧ Aside0 (Below w.heap.size w w'))
        case atStart => exact ⟨(y708), (0), (by first | rfl | (simp; done) | (simp [*]; done)), H', ⟨Nat.le_refl _⟩, ⟨by (with_reducible repeat (first | apply Kd.S_alloc | apply Kd.S_drewN | apply Kd.S_drew)); exact Kd.S_mono HO710.out (fun _ hk => hk.2)⟩, ⟨by (with_reducible repeat (first | apply Kd.R_alloc | apply Kd.R_drewN | apply Kd.R_drew)); exact HO713.out⟩, ⟨by repeat (first | (with_reducible first | exact HB.out | apply below_alloc | apply pw_below_drewN | apply below_drew1) | exact HB.out)⟩⟩
        case round =>
          clear H'
          try clear c1
          try clear c2
          try clear p2
          try clear c4
          try clear c5
          try clear c10
          try clear p2
          obtain ⟨x6_2, x33_2, rfl, HA, HK2, HO_6, HO_31, HB⟩ := hrel
          cases gk with
          | zero => exact absurd HA.out (by simp [impl_LengthenAll.l0])
          | succ k2 =>
            have H := HA.out
            clear HA
            simp only [impl_LengthenAll.l0] at H
            by_cases c16 : x33_2 < (t711.length : Int)
            · rw [if_pos c16] at H
              have c16b0 : decide (x33_2 < (t711.length : Int)) = true := decide_eq_true c16
              clear c16
              by_cases c17 : 0 ≤ x33_2
              · rw [if_pos c17] at H
                have c17b0 : decide (0 ≤ x33_2) = true := decide_eq_true c17
                clear c17
                by_cases c18 : x33_2 < (t711.length : Int)
                · rw [if_pos c18] at H
                  have c18b0 : decide (x33_2 < (t711.length : Int)) = true := decide_eq_true c18
                  clear c18
                  obtain ⟨y715, hy715⟩ : ∃ y_ : List ByteArray, y_ = (([rdOf ByteArray.empty t711 x33_2] : List ByteArray)) := ⟨_, rfl⟩
                  replace H : (impl_LengthenAll.l1 k2 l1 x6_2 (rdOf ByteArray.empty t711 x33_2) y715 t711 (t711.length : Int) x33_2 l1 (l1.length : Int) 0) = some (r1, r2) := by first | (rw [hy715]; with_reducible exact H) | (have H2_ := (Option.bind_some _ _).symm.trans H; rw [hy715]; with_reducible exact H2_) | (have H2_ := (Option.bind_some _ _).symm.trans H; with_reducible exact H2_) | with_reducible exact H | (rw [hy715]; exact H) | exact H
                  have Ny715 := Aside0.mk hy715
                  clear hy715
                  have H' := Aside0.mk H
                  clear H
                  have p714 : 0 ≤ (x33_2 : Int) := of_decide_eq_true (by first | (with_reducible assumption) | assumption)
                  have q714 : x33_2 < (t711.length : Int) := of_decide_eq_true (by first | (with_reducible assumption) | assumption)
                  obtain ⟨ad714, e714, hx714_0⟩ := Kd.at_string (Kd.R_reads' HO_31.out).2.2 x33_2 p714 q714
                  cases e714
                  replace p714 := eq_true p714
                  replace q714 := eq_true q714
                  go_wp2_with (first | ((with_reducible refine gate_dst (N := 38) rfl ?_); refine Kd.R_lit Kd.string _ 9 ?hg (N := 38) ?hd (xs := ([rdOf ByteArray.empty t711 x33_2] : List ByteArray)) (inner := [.string (rdOf ByteArray.empty t711 x33_2)]) (ok := fun _ => True) (okp := fun _ => True) ?hr ?hp (fun _ hk => hk) trivial (Below.refl _ _) (Nat.le_refl _) (by simp) ?_; (case hd => rfl); (case hg => rfl); (case hr => first | (go_simp; done) | (go_simp; rfl)); (case hp => exact (Reps.one (show Kd.M Kd.string _ _ _ (rdOf ByteArray.empty t711 x33_2) [.string (rdOf ByteArray.empty t711 x33_2)] from rfl) (Reps.none _ _))); intro v716 w19 ho20 hb hg_ hnew_; clear hg_ hnew_; (first | rw [← Ny715.out] at ho20 | (simp only [Int.reduceToNat] at ho20; rw [← Ny715.out] at ho20)); have n0_ := Aside0.mk (Kd.S_elder' (by (with_reducible repeat (first | apply Kd.S_alloc | apply Kd.S_drewN | apply Kd.S_drew)); exact HO_6.out) (Kd.R_base ho20) hb); have n1_ := Aside0.mk (Kd.R_elder' (by (with_reducible repeat (first | apply Kd.R_alloc | apply Kd.R_drewN | apply Kd.R_drew)); exact HO_31.out) (Kd.R_base ho20) hb); have n2_ := Aside0.mk (Kd.R_lower (Kd.R_new' ho20 (Kd.R_lt (by (with_reducible repeat (first | apply Kd.R_alloc | apply Kd.R_drewN | apply Kd.R_drew)); exact HO_31.out))) (below_size (by repeat (first | (with_reducible first | exact HB.out | apply below_alloc | apply pw_below_drewN | apply below_drew1) | exact HB.out)))); have n3_ := Aside0.mk (below_step (by repeat (first | (with_reducible first | exact HB.out | apply below_alloc | apply pw_below_drewN | apply below_drew1) | exact HB.out)) hb); clear HO_6; clear HO_31; clear HB; have HO_6 := n0_; have HO_31 := n1_; have HO717 := n2_; have HB := n3_; clear n0_ n1_ n2_ n3_; clear hb ho20))
                  go_loopg [9, 41] k2 (fun kq v9 v41 w' => ∃ (x9_3 : List ByteArray) (x41_3 : Int), v41 = .int .i64 x41_3 ∧ Aside0 (impl_LengthenAll.l1 kq l1 x6_2 (rdOf ByteArray.empty t711 x33_2) x9_3 t711 (t711.length : Int) x33_2 l1 (l1.length : Int) x41_3 = some (r1, r2)) ∧ Aside0 (kq ≤ k2) ∧ Aside0 (Kd.S (Kd.slice 9 Kd.string) 37 w' w.heap.size (fun k_ => some k_ ≠ (v9 : Value).ownBlock ∧ some k_ ≠ ((.slice (some ad714) t711.length co15) : Value).ownBlock) u6 x6_2) ∧ Aside0 (Kd.R Kd.string 9 w' w.heap.size (fun k_ => some k_ ≠ ((.slice (some ad714) t711.length co15) : Value).ownBlock) v9 x9_3) ∧ Aside0 (Kd.R Kd.string 9 w' w.heap.size (fun k_ => some k_ ≠ (v9 : Value).ownBlock) (.slice (some ad714) t711.length co15) t711) ∧ Aside0 (Below w.heap.size w w'))
                  case atStart => exact ⟨(y715), (0), (by first | rfl | (simp; done) | (simp [*]; done)), H', ⟨Nat.le_refl _⟩, ⟨by (with_reducible repeat (first | apply Kd.S_alloc | apply Kd.S_drewN | apply Kd.S_drew)); exact Kd.S_mono HO_6.out (fun _ hk => ⟨hk.2, hk.1⟩)⟩, ⟨by (with_reducible repeat (first | apply Kd.R_alloc | apply Kd.R_drewN | apply Kd.R_drew)); exact Kd.R_mono HO717.out (fun _ hk => hk.2)⟩, ⟨by (with_reducible repeat (first | apply Kd.R_alloc | apply Kd.R_drewN | apply Kd.R_drew)); exact Kd.R_mono HO_31.out (fun _ hk => hk.2)⟩, ⟨by repeat (first | (with_reducible first | exact HB.out | apply below_alloc | apply pw_below_drewN | apply below_drew1) | exact HB.out)⟩⟩
                  case round =>
                    clear H'
                    try clear c1
                    try clear c2
                    try clear p2
                    try clear c4
                    try clear c5
                    try clear p7
                    try clear q7
                    try clear hx7
                    try clear c10
                    try clear c16
                    try clear c16b0
                    try clear c17
                    try clear c17b0
                    try clear c18
                    try clear c18b0
                    try clear hx714_0
                    try clear p2
                    try clear p714
                    try clear q714
                    obtain ⟨x9_3, x41_3, rfl, HA, HK3, HO_6, HO_9, HO_31, HB⟩ := hrel
                    cases gk with
                    | zero => exact absurd HA.out (by simp [impl_LengthenAll.l1])
                    | succ k3 =>
                      have H := HA.out
                      clear HA
                      simp only [impl_LengthenAll.l1] at H
                      by_cases c21 : x41_3 < (l1.length : Int)
                      · rw [if_pos c21] at H
                        have c21b0 : decide (x41_3 < (l1.length : Int)) = true := decide_eq_true c21
                        clear c21
                        by_cases c22 : 0 ≤ x41_3
                        · rw [if_pos c22] at H
                          have c22b0 : decide (0 ≤ x41_3) = true := decide_eq_true c22
                          clear c22
                          by_cases c23 : x41_3 < (l1.length : Int)
                          · rw [if_pos c23] at H
                            have c23b0 : decide (x41_3 < (l1.length : Int)) = true := decide_eq_true c23
                            clear c23
                            by_cases c24 : ((rd_T51 l1 x41_3).f1).toList = (rdOf ByteArray.empty t711 x33_2).toList
                            · rw [if_pos c24] at H
                              have c24b0 : (((rd_T51 l1 x41_3).f1).toList == (rdOf ByteArray.empty t711 x33_2).toList) = true := beq_iff_eq.mpr c24
                              have c24b1 : (((rd_T51 l1 x41_3).f1).toList != (rdOf ByteArray.empty t711 x33_2).toList) = false := bne_eq_false_iff_eq.mpr c24
                              clear c24
                              by_cases c25 : x9_3.length < 8796093022208
                              · rw [if_pos c25] at H
                                have LMc25 := Aside0.mk c25
                                clear c25
                                obtain ⟨y720, hy720⟩ : ∃ y_ : List ByteArray, y_ = (x9_3 ++ [(rd_T51 l1 x41_3).f0]) := ⟨_, rfl⟩
                                replace H : (impl_LengthenAll.l1 k3 l1 x6_2 (rdOf ByteArray.empty t711 x33_2) y720 t711 (t711.length : Int) x33_2 l1 (l1.length : Int) (wrap64 (x41_3 + 1))) = some (r1, r2) := by first | (rw [hy720]; with_reducible exact H) | (have H2_ := (Option.bind_some _ _).symm.trans H; rw [hy720]; with_reducible exact H2_) | (have H2_ := (Option.bind_some _ _).symm.trans H; with_reducible exact H2_) | with_reducible exact H | (rw [hy720]; exact H) | exact H
                                have Ny720 := Aside0.mk hy720
                                clear hy720
                                have H' := Aside0.mk H
                                clear H
                                have p718 : 0 ≤ (x41_3 : Int) := of_decide_eq_true (by first | (with_reducible assumption) | assumption)
                                have q718 : x41_3 < (l1.length : Int) := of_decide_eq_true (by first | (with_reducible assumption) | assumption)
                                obtain ⟨ad718, e718, hx718_0, hx718_1⟩ := at_T51 HR1.out x41_3 p718 q718
                                cases e718
                                replace hx718_0 := (HB.out.cell (World.block_lt_of_cell? w _ hx718_0)).trans hx718_0
                                replace hx718_1 := (HB.out.cell (World.block_lt_of_cell? w _ hx718_1)).trans hx718_1
                                replace p718 := eq_true p718
                                replace q718 := eq_true q718
                                go_wp2_with (first | ((with_reducible refine gate_dst (N := 11) rfl ?_); refine box_event ?hg (N := 11) ?hd (cs := #[.string (⟨#[]⟩ : ByteArray), .string (⟨#[]⟩ : ByteArray)]) (t := 51) ?hr ?_; (case hd => rfl); (case hg => rfl); (case hr => first | (go_simp; done) | (go_simp; rfl)); intro gb719 hg w26 hbox hb; have n0_ := Aside0.mk (Kd.S_below (by (with_reducible repeat (first | apply Kd.S_alloc | apply Kd.S_drewN | apply Kd.S_drew)); exact HO_6.out) hb); have n1_ := Aside0.mk (Kd.R_below (by (with_reducible repeat (first | apply Kd.R_alloc | apply Kd.R_drewN | apply Kd.R_drew)); exact HO_9.out) hb); have n2_ := Aside0.mk (Kd.R_below (by (with_reducible repeat (first | apply Kd.R_alloc | apply Kd.R_drewN | apply Kd.R_drew)); exact HO_31.out) hb); have n3_ := Aside0.mk (below_step (by repeat (first | (with_reducible first | exact HB.out | apply below_alloc | apply pw_below_drewN | apply below_drew1) | exact HB.out)) hb); have n4_ := Aside0.mk (hbox); have n5_ := Aside0.mk ((by rw [hg]; exact (below_size (by repeat (first | (with_reducible first | exact HB.out | apply below_alloc | apply pw_below_drewN | apply below_drew1) | exact HB.out))) : w.heap.size ≤ gb719)); have n6_ := Aside0.mk ((by rw [hg]; exact (below_size (by repeat (first | (with_reducible first | exact HB.out | apply below_alloc | apply pw_below_drewN | apply below_drew1) | exact HB.out))) : w.heap.size ≤ gb719)); clear HO_6; clear HO_9; clear HO_31; clear HB; have HO_6 := n0_; have HO_9 := n1_; have HO_31 := n2_; have HB := n3_; have BK719 := n4_; have GW719 := n5_; have GE719 := n6_; clear n0_ n1_ n2_ n3_ n4_ n5_ n6_; clear hb hbox hg; have hcz27_0 : w26.cell? ⟨gb719, 0, none⟩ = some (.string (⟨#[]⟩ : ByteArray)) := (blk_cell BK719.out 0).trans rfl; have hcz27_1 : w26.cell? ⟨gb719, 1, none⟩ = some (.string (⟨#[]⟩ : ByteArray)) := (blk_cell BK719.out 1).trans rfl; have hfz27_0 := blk_frozen BK719.out 0; have hfz27_1 := blk_frozen BK719.out 1) | ((with_reducible refine gate_builtin (b := .append) (xs := #[.tmp 49, .tmp 52]) rfl ?_); at_builtin; refine Kd.R_append Kd.string (w0 := w) w.heap.size rfl (.tmp 49) (.tmp 52) 37 9 (.string ⟨#[]⟩) 16 rfl Tryd.underlying37 info9 rfl (by decide) (by omega) u9 x9_3 ((rd_T51 l1 x41_3).f0) [.string ((rd_T51 l1 x41_3).f0)] (fun k_ => some k_ ≠ (.slice (some ad714) t711.length co15 : Value).ownBlock) (fun _ => False) rfl (by first | (go_simp; done) | (go_simp; rfl)) ?aP (fun _ hk => hk.elim) ?aF ?aO ?aB ?aS ?aL ?_; (case aP => exact rfl); (case aB => exact (by repeat (first | (with_reducible first | exact HB.out | apply below_alloc | apply pw_below_drewN | apply below_drew1 | refine below_set ?_ GE719.out) | exact HB.out))); (case aF => exact (fun k_ hk => Kd.fresh' (Kd.R_lt (by (with_reducible repeat (first | apply Kd.R_alloc | apply Kd.R_drewN | apply Kd.R_drew)); exact (Kd.R_mono (Kd.R_far (p := ⟨gb719, 1, none⟩) (Kd.R_far (p := ⟨gb719, 0, none⟩) (Kd.R_types HO_31.out BK719.out (by decide)) (fun _ hk => hk.2) (.string ((rd_T51 l1 x41_3).f0))) (fun _ hk => hk.2) (.string ((rd_T51 l1 x41_3).f1))) (fun _ h_ => h_.1)))) k_ hk)); (case aO => exact (by (with_reducible repeat (first | apply Kd.R_alloc | apply Kd.R_drewN | apply Kd.R_drew)); exact Kd.R_mono (Kd.R_far (p := ⟨gb719, 1, none⟩) (Kd.R_far (p := ⟨gb719, 0, none⟩) (Kd.R_types HO_9.out BK719.out (by decide)) (fun _ hk => hk.2) (.string ((rd_T51 l1 x41_3).f0))) (fun _ hk => hk.2) (.string ((rd_T51 l1 x41_3).f1))) (fun _ hk => hk.1))); (case aS => exact (below_size (by repeat (first | (with_reducible first | exact HB.out | apply below_alloc | apply pw_below_drewN | apply below_drew1 | refine below_set ?_ GE719.out) | exact HB.out)))); (case aL => have := LMc25.out; omega); intro v721 w28 ho hb hg hat; rw [← Ny720.out] at ho; have n0_ := Aside0.mk (Kd.S_after (ok := (fun k_ => some k_ ≠ (.slice (some ad714) t711.length co15 : Value).ownBlock)) (by (with_reducible repeat (first | apply Kd.S_alloc | apply Kd.S_drewN | apply Kd.S_drew)); exact Kd.S_mono (Kd.S_far (p := ⟨gb719, 1, none⟩) (Kd.S_far (p := ⟨gb719, 0, none⟩) (Kd.S_types HO_6.out BK719.out (by decide)) (fun _ hk => hk.2) (.string ((rd_T51 l1 x41_3).f0))) (fun _ hk => hk.2) (.string ((rd_T51 l1 x41_3).f1))) (fun _ hk => ⟨hk.1.2, hk.1.1⟩)) hg hat); have n1_ := Aside0.mk (Kd.R_after (ok := (fun _ => True)) (by (with_reducible repeat (first | apply Kd.R_alloc | apply Kd.R_drewN | apply Kd.R_drew)); exact Kd.R_mono (Kd.R_far (p := ⟨gb719, 1, none⟩) (Kd.R_far (p := ⟨gb719, 0, none⟩) (Kd.R_types HO_31.out BK719.out (by decide)) (fun _ hk => hk.2) (.string ((rd_T51 l1 x41_3).f0))) (fun _ hk => hk.2) (.string ((rd_T51 l1 x41_3).f1))) (fun _ hk => ⟨trivial, hk.1⟩)) hg hat); have n2_ := Aside0.mk (blk_grown (g := gb719) (o := .cells #[.string ((rd_T51 l1 x41_3).f0), .string ((rd_T51 l1 x41_3).f1)] 51 (0, 0)) (by (with_reducible repeat (first | refine blk_drewN ?_ _ | refine blk_drew ?_ | refine blk_alloc ?_ _)); refine blk_put (cs := #[.string ((rd_T51 l1 x41_3).f0), .string (⟨#[]⟩ : ByteArray)]) ?_ 1 _ rfl; (with_reducible repeat (first | refine blk_drewN ?_ _ | refine blk_drew ?_ | refine blk_alloc ?_ _)); refine blk_put (cs := #[.string (⟨#[]⟩ : ByteArray), .string (⟨#[]⟩ : ByteArray)]) ?_ 0 _ rfl; (with_reducible repeat (first | refine blk_drewN ?_ _ | refine blk_drew ?_ | refine blk_alloc ?_ _)); exact BK719.out) hg (Kd.R_ne HO_9.out BK719.out (by decide))); have n3_ := Aside0.mk (hb); have n4_ := Aside0.mk (ho); clear HO_6; clear HO_31; clear BK719; clear HB; clear HO_9; have HO_6 := n0_; have HO_31 := n1_; have BK719 := n2_; have HB := n3_; have HO722 := n4_; clear n0_ n1_ n2_ n3_ n4_; clear ho hb hg hat))
                                go_roundg k3
                                case measure => have := HJ2.out; have := HK2.out; have := HK3.out; omega
                                case rel => exact ⟨(y720), (wrap64 (x41_3 + 1)), (by first | rfl | (simp; done) | (simp [*]; done)), H', ⟨by have := HJ2.out; have := HK2.out; have := HK3.out; omega⟩, ⟨by (with_reducible repeat (first | apply Kd.S_alloc | apply Kd.S_drewN | apply Kd.S_drew)); exact Kd.S_mono HO_6.out (fun _ hk => ⟨hk.2, hk.1⟩)⟩, ⟨by (with_reducible repeat (first | apply Kd.R_alloc | apply Kd.R_drewN | apply Kd.R_drew)); exact HO722.out⟩, ⟨by (with_reducible repeat (first | apply Kd.R_alloc | apply Kd.R_drewN | apply Kd.R_drew)); exact Kd.R_mono HO_31.out (fun _ hk => hk.2)⟩, ⟨by repeat (first | (with_reducible first | exact HB.out | apply below_alloc | apply pw_below_drewN | apply below_drew1 | refine below_set ?_ GE719.out) | exact HB.out)⟩⟩
                              · rw [if_neg c25] at H
                                exact absurd H (by simp)
                            · rw [if_neg c24] at H
                              have c24b0 : (((rd_T51 l1 x41_3).f1).toList == (rdOf ByteArray.empty t711 x33_2).toList) = false := beq_eq_false_iff_ne.mpr c24
                              have c24b1 : (((rd_T51 l1 x41_3).f1).toList != (rdOf ByteArray.empty t711 x33_2).toList) = true := bne_iff_ne.mpr c24
                              have H' := Aside0.mk H
                              clear H
                              have p718 : 0 ≤ (x41_3 : Int) := of_decide_eq_true (by first | (with_reducible assumption) | assumption)
                              have q718 : x41_3 < (l1.length : Int) := of_decide_eq_true (by first | (with_reducible assumption) | assumption)
                              obtain ⟨ad718, e718, hx718_0, hx718_1⟩ := at_T51 HR1.out x41_3 p718 q718
                              cases e718
                              replace hx718_0 := (HB.out.cell (World.block_lt_of_cell? w _ hx718_0)).trans hx718_0
                              replace hx718_1 := (HB.out.cell (World.block_lt_of_cell? w _ hx718_1)).trans hx718_1
                              replace p718 := eq_true p718
                              replace q718 := eq_true q718
                              go_wp2_with (first | ((with_reducible refine gate_dst (N := 11) rfl ?_); refine box_event ?hg (N := 11) ?hd (cs := #[.string (⟨#[]⟩ : ByteArray), .string (⟨#[]⟩ : ByteArray)]) (t := 51) ?hr ?_; (case hd => rfl); (case hg => rfl); (case hr => first | (go_simp; done) | (go_simp; rfl)); intro gb719 hg w29 hbox hb; have n0_ := Aside0.mk (Kd.S_below (by (with_reducible repeat (first | apply Kd.S_alloc | apply Kd.S_drewN | apply Kd.S_drew)); exact HO_6.out) hb); have n1_ := Aside0.mk (Kd.R_below (by (with_reducible repeat (first | apply Kd.R_alloc | apply Kd.R_drewN | apply Kd.R_drew)); exact HO_9.out) hb); have n2_ := Aside0.mk (Kd.R_below (by (with_reducible repeat (first | apply Kd.R_alloc | apply Kd.R_drewN | apply Kd.R_drew)); exact HO_31.out) hb); have n3_ := Aside0.mk (below_step (by repeat (first | (with_reducible first | exact HB.out | apply below_alloc | apply pw_below_drewN | apply below_drew1) | exact HB.out)) hb); have n4_ := Aside0.mk (hbox); have n5_ := Aside0.mk ((by rw [hg]; exact (below_size (by repeat (first | (with_reducible first | exact HB.out | apply below_alloc | apply pw_below_drewN | apply below_drew1) | exact HB.out))) : w.heap.size ≤ gb719)); have n6_ := Aside0.mk ((by rw [hg]; exact (below_size (by repeat (first | (with_reducible first | exact HB.out | apply below_alloc | apply pw_below_drewN | apply below_drew1) | exact HB.out))) : w.heap.size ≤ gb719)); clear HO_6; clear HO_9; clear HO_31; clear HB; have HO_6 := n0_; have HO_9 := n1_; have HO_31 := n2_; have HB := n3_; have BK719 := n4_; have GW719 := n5_; have GE719 := n6_; clear n0_ n1_ n2_ n3_ n4_ n5_ n6_; clear hb hbox hg; have hcz30_0 : w29.cell? ⟨gb719, 0, none⟩ = some (.string (⟨#[]⟩ : ByteArray)) := (blk_cell BK719.out 0).trans rfl; have hcz30_1 : w29.cell? ⟨gb719, 1, none⟩ = some (.string (⟨#[]⟩ : ByteArray)) := (blk_cell BK719.out 1).trans rfl; have hfz30_0 := blk_frozen BK719.out 0; have hfz30_1 := blk_frozen BK719.out 1))
                              go_roundg k3
                              case measure => have := HJ2.out; have := HK2.out; have := HK3.out; omega
                              case rel => exact ⟨(x9_3), (wrap64 (x41_3 + 1)), (by first | rfl | (simp; done) | (simp [*]; done)), H', ⟨by have := HJ2.out; have := HK2.out; have := HK3.out; omega⟩, ⟨by (with_reducible repeat (first | apply Kd.S_alloc | apply Kd.S_drewN | apply Kd.S_drew)); exact Kd.S_mono (Kd.S_far (p := ⟨gb719, 1, none⟩) (Kd.S_far (p := ⟨gb719, 0, none⟩) (Kd.S_types HO_6.out BK719.out (by decide)) (fun _ hk => hk.2) (.string ((rd_T51 l1 x41_3).f0))) (fun _ hk => hk.2) (.string ((rd_T51 l1 x41_3).f1))) (fun _ hk => ⟨hk.1.1, hk.1.2⟩)⟩, ⟨by (with_reducible repeat (first | apply Kd.R_alloc | apply Kd.R_drewN | apply Kd.R_drew)); exact Kd.R_mono (Kd.R_far (p := ⟨gb719, 1, none⟩) (Kd.R_far (p := ⟨gb719, 0, none⟩) (Kd.R_types HO_9.out BK719.out (by decide)) (fun _ hk => hk.2) (.string ((rd_T51 l1 x41_3).f0))) (fun _ hk => hk.2) (.string ((rd_T51 l1 x41_3).f1))) (fun _ hk => hk.1)⟩, ⟨by (with_reducible repeat (first | apply Kd.R_alloc | apply Kd.R_drewN | apply Kd.R_drew)); exact Kd.R_mono (Kd.R_far (p := ⟨gb719, 1, none⟩) (Kd.R_far (p := ⟨gb719, 0, none⟩) (Kd.R_types HO_31.out BK719.out (by decide)) (fun _ hk => hk.2) (.string ((rd_T51 l1 x41_3).f0))) (fun _ hk => hk.2) (.string ((rd_T51 l1 x41_3).f1))) (fun _ hk => hk.1)⟩, ⟨by repeat (first | (with_reducible first | exact HB.out | apply below_alloc | apply pw_below_drewN | apply below_drew1 | refine below_set ?_ GE719.out) | exact HB.out)⟩⟩
                          · rw [if_neg c23] at H
                            exact absurd H (by simp)
                        · rw [if_neg c22] at H
                          exact absurd H (by simp)
                      · rw [if_neg c21] at H
                        have c21b0 : decide (x41_3 < (l1.length : Int)) = false := decide_eq_false c21
                        clear c21
                        obtain ⟨y723, hy723⟩ : ∃ y_ : List (List ByteArray), y_ = (([] : List (List ByteArray))) := ⟨_, rfl⟩
                        replace H : (impl_LengthenAll.l2 k3 l1 x9_3 y723 t711 (t711.length : Int) x33_2 x6_2 (x6_2.length : Int) 0) = some (r1, r2) := by first | (rw [hy723]; with_reducible exact H) | (have H2_ := (Option.bind_some _ _).symm.trans H; rw [hy723]; with_reducible exact H2_) | (have H2_ := (Option.bind_some _ _).symm.trans H; with_reducible exact H2_) | with_reducible exact H | (rw [hy723]; exact H) | exact H
                        have Ny723 := Aside0.mk hy723
                        clear hy723
                        have H' := Aside0.mk H
                        clear H
                        go_wp2_with (first | ((with_reducible refine gate_dst (N := 55) rfl ?_); refine Kd.S_lit (Kd.slice 9 Kd.string) _ 37 ?hg (N := 55) ?hd (xs := ([] : List (List ByteArray))) (inner := []) (ok := fun _ => True) (okp := fun _ => True) ?hr ?hp (fun _ hk => hk) trivial (Below.refl _ _) (Nat.le_refl _) (by simp) ?_; (case hd => rfl); (case hg => rfl); (case hr => first | (go_simp; done) | (go_simp; rfl)); (case hp => exact (Reps.none _ _)); intro v724 w31 ho32 hb hg_ hnew_; clear hg_ hnew_; (first | rw [← Ny723.out] at ho32 | (simp only [Int.reduceToNat] at ho32; rw [← Ny723.out] at ho32)); have n0_ := Aside0.mk (Kd.S_elder' (by (with_reducible repeat (first | apply Kd.S_alloc | apply Kd.S_drewN | apply Kd.S_drew)); exact HO_6.out) (Kd.S_base ho32) hb); have n1_ := Aside0.mk (Kd.R_below (by (with_reducible repeat (first | apply Kd.R_alloc | apply Kd.R_drewN | apply Kd.R_drew)); exact HO_9.out) hb); have n2_ := Aside0.mk (Kd.R_below (by (with_reducible repeat (first | apply Kd.R_alloc | apply Kd.R_drewN | apply Kd.R_drew)); exact HO_31.out) hb); have n3_ := Aside0.mk (Kd.S_lower (Kd.S_new' (Kd.S_new' (Kd.S_new' ho32 (Kd.S_lt (by (with_reducible repeat (first | apply Kd.S_alloc | apply Kd.S_drewN | apply Kd.S_drew)); exact HO_6.out))) (Kd.R_lt (by (with_reducible repeat (first | apply Kd.R_alloc | apply Kd.R_drewN | apply Kd.R_drew)); exact HO_9.out))) (Kd.R_lt (by (with_reducible repeat (first | apply Kd.R_alloc | apply Kd.R_drewN | apply Kd.R_drew)); exact HO_31.out))) (below_size (by repeat (first | (with_reducible first | exact HB.out | apply below_alloc | apply pw_below_drewN | apply below_drew1) | exact HB.out)))); have n4_ := Aside0.mk (below_step (by repeat (first | (with_reducible first | exact HB.out | apply below_alloc | apply pw_below_drewN | apply below_drew1) | exact HB.out)) hb); clear HO_6; clear HO_9; clear HO_31; clear HB; have HO_6 := n0_; have HO_9 := n1_; have HO_31 := n2_; have HO725 := n3_; have HB := n4_; clear n0_ n1_ n2_ n3_ n4_; clear hb ho32; obtain ⟨Ao33, co33, eo33⟩ := Kd.S_slice HO_6.out; subst eo33))
                        go_loopg [12, 58] k3 (fun kq v12 v58 w' => ∃ (x12_4 : List (List ByteArray)) (x58_4 : Int), v58 = .int .i64 x58_4 ∧ Aside0 (impl_LengthenAll.l2 kq l1 x9_3 x12_4 t711 (t711.length : Int) x33_2 x6_2 (x6_2.length : Int) x58_4 = some (r1, r2)) ∧ Aside0 (kq ≤ k3) ∧ Aside0 (Kd.R Kd.string 9 w' w.heap.size (fun k_ => some k_ ≠ ((.slice (some ad714) t711.length co15) : Value).ownBlock) u9 x9_3) ∧ Aside0 (Kd.S (Kd.slice 9 Kd.string) 37 w' w.heap.size (fun k_ => some k_ ≠ (u9 : Value).ownBlock ∧ some k_ ≠ ((.slice (some ad714) t711.length co15) : Value).ownBlock ∧ some k_ ≠ ((.slice Ao33 x6_2.length co33) : Value).ownBlock) v12 x12_4) ∧ Aside0 (Kd.R Kd.string 9 w' w.heap.size (fun k_ => some k_ ≠ (u9 : Value).ownBlock) (.slice (some ad714) t711.length co15) t711) ∧ Aside0 (Kd.S (Kd.slice 9 Kd.string) 37 w' w.heap.size (fun k_ => some k_ ≠ (u9 : Value).ownBlock ∧ some k_ ≠ (v12 : Value).ownBlock ∧ some k_ ≠ ((.slice (some ad714) t711.length co15) : Value).ownBlock) (.slice Ao33 x6_2.length co33) x6_2) ∧ Aside0 (Below w.heap.size w w'))
                        case atStart => exact ⟨(y723), (0), (by first | rfl | (simp; done) | (simp [*]; done)), H', ⟨Nat.le_refl _⟩, ⟨by (with_reducible repeat (first | apply Kd.R_alloc | apply Kd.R_drewN | apply Kd.R_drew)); exact HO_9.out⟩, ⟨by (with_reducible repeat (first | apply Kd.S_alloc | apply Kd.S_drewN | apply Kd.S_drew)); exact Kd.S_mono HO725.out (fun _ hk => ⟨hk.1.2, ⟨hk.2, hk.1.1.2⟩⟩)⟩, ⟨by (with_reducible repeat (first | apply Kd.R_alloc | apply Kd.R_drewN | apply Kd.R_drew)); exact HO_31.out⟩, ⟨by (with_reducible repeat (first | apply Kd.S_alloc | apply Kd.S_drewN | apply Kd.S_drew)); exact Kd.S_mono HO_6.out (fun _ hk => ⟨hk.1.1, ⟨hk.2, hk.1.2⟩⟩)⟩, ⟨by repeat (first | (with_reducible first | exact HB.out | apply below_alloc | apply pw_below_drewN | apply below_drew1) | exact HB.out)⟩⟩
                        case round =>
                          clear H'
                          try clear c1
                          try clear c2
                          try clear p2
                          try clear c4
                          try clear c5
                          try clear p6
                          try clear p7
                          try clear q7
                          try clear hx7
                          try clear c10
                          try clear c16
                          try clear c16b0
                          try clear c17
                          try clear c17b0
                          try clear c18
                          try clear c18b0
                          try clear c21
                          try clear c21b0
                          try clear c22
                          try clear c22b0
                          try clear c23
                          try clear c23b0
                          try clear c24
                          try clear c24b0
                          try clear c24b1
                          try clear c25
                          try clear hcz27_0
                          try clear hcz27_1
                          try clear hcz30_0
                          try clear hcz30_1
                          try clear hfz27_0
                          try clear hfz27_1
                          try clear hfz30_0
                          try clear hfz30_1
                          try clear hx714_0
                          try clear hx718_0
                          try clear hx718_1
                          try clear p2
                          try clear p7
                          try clear p714
                          try clear p718
                          try clear q7
                          try clear q714
                          try clear q718
                          obtain ⟨x12_4, x58_4, rfl, HA, HK4, HO_9, HO_12, HO_31, HO_56, HB⟩ := hrel
                          cases gk with
                          | zero => exact absurd HA.out (by simp [impl_LengthenAll.l2])
                          | succ k4 =>
                            have H := HA.out
                            clear HA
                            simp only [impl_LengthenAll.l2] at H
                            by_cases c34 : x58_4 < (x6_2.length : Int)
                            · rw [if_pos c34] at H
                              have c34b0 : decide (x58_4 < (x6_2.length : Int)) = true := decide_eq_true c34
                              clear c34
                              by_cases c35 : 0 ≤ x58_4
                              · rw [if_pos c35] at H
                                have c35b0 : decide (0 ≤ x58_4) = true := decide_eq_true c35
                                clear c35
                                by_cases c36 : x58_4 < (x6_2.length : Int)
                                · rw [if_pos c36] at H
                                  have c36b0 : decide (x58_4 < (x6_2.length : Int)) = true := decide_eq_true c36
                                  clear c36
                                  have H' := Aside0.mk H
                                  clear H
                                  have p726 : 0 ≤ (x58_4 : Int) := of_decide_eq_true (by first | (with_reducible assumption) | assumption)
                                  have q726 : x58_4 < (x6_2.length : Int) := of_decide_eq_true (by first | (with_reducible assumption) | assumption)
                                  obtain ⟨ad726, A726_0, c726_0, e726, hx726_0, hl726_0, hi726_0⟩ := at_L9 (Kd.S_reads' HO_56.out).2.2 x58_4 p726 q726
                                  cases e726
                                  obtain ⟨ce726, hce726, hMe726, hcc726⟩ := Kd.S_get HO_56.out [] x58_4 p726 (by first | exact q726 | exact of_decide_eq_true (by first | (with_reducible assumption) | assumption) | (have e_ := (Kd.S_reads' HO_56.out).1; omega))
                                  obtain ⟨ve726_0, rfl, ge726_0⟩ := hMe726
                                  have hv726_0 := hcc726 0 _ rfl
                                  rw [Nat.add_zero, show ((Kd.slice 9 Kd.string)).sz = 1 from rfl, Nat.mul_one] at hv726_0
                                  replace hv726_0 := Option.some.inj (hv726_0.symm.trans hx726_0)
                                  rw [hv726_0] at ge726_0
                                  have HL726_0 := Aside0.mk (show Kd.R Kd.string 9 _ _ _ _ (rd_L9 x6_2 x58_4) from ge726_0)
                                  clear hv726_0 ge726_0
                                  clear hcc726 hce726
                                  have HR726_0 := Aside0.mk hi726_0
                                  have HC726_0 := Aside0.mk hl726_0
                                  clear hi726_0 hl726_0
                                  replace p726 := eq_true p726
                                  replace q726 := eq_true q726
                                  obtain ⟨Ao37, co37, eo37⟩ := Kd.R_slice HO_9.out
                                  subst eo37
                                  go_wp2
                                  have HP726 := Aside0.mk (show 0 ≤ x58_4 ∧ x58_4 < (x6_2.length : Int) from ⟨of_decide_eq_true c35b0, of_decide_eq_true c36b0⟩)
                                  go_loopg [12, 64] k4 (fun kq v12 v64 w' => ∃ (x12_5 : List (List ByteArray)) (x64_5 : Int), v64 = .int .i64 x64_5 ∧ Aside0 (impl_LengthenAll.l3 kq l1 x9_3 x12_5 (rd_L9 x6_2 x58_4) t711 (t711.length : Int) x33_2 x6_2 (x6_2.length : Int) x58_4 x9_3 (x9_3.length : Int) x64_5 = some (r1, r2)) ∧ Aside0 (kq ≤ k4) ∧ Aside0 (Kd.R Kd.string 9 w' w.heap.size (fun k_ => some k_ ≠ ((.slice (some ad714) t711.length co15) : Value).ownBlock) (.slice Ao37 x9_3.length co37) x9_3) ∧ Aside0 (Kd.S (Kd.slice 9 Kd.string) 37 w' w.heap.size (fun k_ => some k_ ≠ ((.slice Ao37 x9_3.length co37) : Value).ownBlock ∧ some k_ ≠ ((.slice (some ad714) t711.length co15) : Value).ownBlock ∧ some k_ ≠ ((.slice (some ad726) x6_2.length co33) : Value).ownBlock ∧ some k_ ≠ ((.slice Ao37 x9_3.length co37) : Value).ownBlock) v12 x12_5) ∧ Aside0 (Kd.R Kd.string 9 w' w.heap.size (fun k_ => some k_ ≠ ((.slice Ao37 x9_3.length co37) : Value).ownBlock ∧ some k_ ≠ ((.slice Ao37 x9_3.length co37) : Value).ownBlock) (.slice (some ad714) t711.length co15) t711) ∧ Aside0 (Kd.S (Kd.slice 9 Kd.string) 37 w' w.heap.size (fun k_ => some k_ ≠ ((.slice Ao37 x9_3.length co37) : Value).ownBlock ∧ some k_ ≠ (v12 : Value).ownBlock ∧ some k_ ≠ ((.slice (some ad714) t711.length co15) : Value).ownBlock ∧ some k_ ≠ ((.slice Ao37 x9_3.length co37) : Value).ownBlock) (.slice (some ad726) x6_2.length co33) x6_2) ∧ Aside0 (Kd.R Kd.string 9 w' w.heap.size (fun k_ => some k_ ≠ ((.slice (some ad714) t711.length co15) : Value).ownBlock) (.slice Ao37 x9_3.length co37) x9_3) ∧ Aside0 (Below w.heap.size w w') ∧ Aside0 (w'.cell? (ad726.add x58_4.toNat) = some (.slice A726_0 (rd_L9 x6_2 x58_4).length c726_0)))
                                  case atStart => exact ⟨(x12_4), (0), (by first | rfl | (simp; done) | (simp [*]; done)), H', ⟨Nat.le_refl _⟩, ⟨by (with_reducible repeat (first | apply Kd.R_alloc | apply Kd.R_drewN | apply Kd.R_drew)); exact HO_9.out⟩, ⟨by (with_reducible repeat (first | apply Kd.S_alloc | apply Kd.S_drewN | apply Kd.S_drew)); exact Kd.S_mono HO_12.out (fun _ hk => ⟨hk.1, ⟨hk.2.1, ⟨hk.2.2, hk.1⟩⟩⟩)⟩, ⟨by (with_reducible repeat (first | apply Kd.R_alloc | apply Kd.R_drewN | apply Kd.R_drew)); exact Kd.R_mono HO_31.out (fun _ hk => ⟨hk, hk⟩)⟩, ⟨by (with_reducible repeat (first | apply Kd.S_alloc | apply Kd.S_drewN | apply Kd.S_drew)); exact Kd.S_mono HO_56.out (fun _ hk => ⟨hk.1, ⟨hk.2.1, ⟨hk.2.2, hk.1⟩⟩⟩)⟩, ⟨by (with_reducible repeat (first | apply Kd.R_alloc | apply Kd.R_drewN | apply Kd.R_drew)); exact HO_9.out⟩, ⟨by repeat (first | (with_reducible first | exact HB.out | apply below_alloc | apply pw_below_drewN | apply below_drew1) | exact HB.out)⟩, ⟨by first | exact hx726_0 | exact Lib.cell?_alloc_some _ hx726_0⟩⟩
                                  case round =>
                                    clear H'
                                    try clear c1
                                    try clear c2
                                    try clear p2
                                    try clear c3
                                    try clear c4
                                    try clear c5
                                    try clear p6
                                    try clear c7
                                    try clear p7
                                    try clear q7
                                    try clear hx7
                                    try clear c10
                                    try clear c16
                                    try clear c16b0
                                    try clear c17
                                    try clear c17b0
                                    try clear c18
                                    try clear c18b0
                                    try clear c21
                                    try clear c21b0
                                    try clear c22
                                    try clear c22b0
                                    try clear c23
                                    try clear c23b0
                                    try clear c24
                                    try clear c24b0
                                    try clear c24b1
                                    try clear c25
                                    try clear c34
                                    try clear c34b0
                                    try clear c35
                                    try clear c35b0
                                    try clear c36
                                    try clear c36b0
                                    try clear hcz27_0
                                    try clear hcz27_1
                                    try clear hcz30_0
                                    try clear hcz30_1
                                    try clear hfz27_0
                                    try clear hfz27_1
                                    try clear hfz30_0
                                    try clear hfz30_1
                                    try clear hx714_0
                                    try clear hx718_0
                                    try clear hx718_1
                                    try clear hx726_0
                                    try clear p2
                                    try clear p6
                                    try clear p7
                                    try clear p714
                                    try clear p718
                                    try clear p726
                                    try clear q7
                                    try clear q714
                                    try clear q718
                                    try clear q726
                                    obtain ⟨x12_5, x64_5, rfl, HA, HK5, HO_9, HO_12, HO_31, HO_56, HO_62, HB, HCB⟩ := hrel
                                    cases gk with
                                    | zero => exact absurd HA.out (by simp [impl_LengthenAll.l3])
                                    | succ k5 =>
                                      have H := HA.out
                                      clear HA
                                      simp only [impl_LengthenAll.l3] at H
                                      by_cases c38 : x64_5 < (x9_3.length : Int)
                                      · rw [if_pos c38] at H
                                        have c38b0 : decide (x64_5 < (x9_3.length : Int)) = true := decide_eq_true c38
                                        clear c38
                                        by_cases c39 : 0 ≤ x64_5
                                        · rw [if_pos c39] at H
                                          have c39b0 : decide (0 ≤ x64_5) = true := decide_eq_true c39
                                          clear c39
                                          by_cases c40 : x64_5 < (x9_3.length : Int)
                                          · rw [if_pos c40] at H
                                            have c40b0 : decide (x64_5 < (x9_3.length : Int)) = true := decide_eq_true c40
                                            clear c40
                                            replace H := Option.bind_eq_some_iff.mp H
                                            obtain ⟨t728, A410, H⟩ := H
                                            replace H : (if t728.length < 8796093022208 then (if x12_5.length < 5864062014805 then (impl_LengthenAll.l3 k5 l1 x9_3 (x12_5 ++ [(t728 ++ [rdOf ByteArray.empty x9_3 x64_5])]) (rd_L9 x6_2 x58_4) t711 (t711.length : Int) x33_2 x6_2 (x6_2.length : Int) x58_4 x9_3 (x9_3.length : Int) (wrap64 (x64_5 + 1))) else (none)) else (none)) = some (r1, r2) := H
                                            have A41 := Aside0.mk A410
                                            clear A410
                                            by_cases c42 : t728.length < 8796093022208
                                            · rw [if_pos c42] at H
                                              have LMc42 := Aside0.mk c42
                                              clear c42
                                              obtain ⟨y731, hy731⟩ : ∃ y_ : List ByteArray, y_ = (t728 ++ [rdOf ByteArray.empty x9_3 x64_5]) := ⟨_, rfl⟩
                                              replace H : (if x12_5.length < 5864062014805 then (impl_LengthenAll.l3 k5 l1 x9_3 (x12_5 ++ [y731]) (rd_L9 x6_2 x58_4) t711 (t711.length : Int) x33_2 x6_2 (x6_2.length : Int) x58_4 x9_3 (x9_3.length : Int) (wrap64 (x64_5 + 1))) else (none)) = some (r1, r2) := by first | (rw [hy731]; with_reducible exact H) | (have H2_ := (Option.bind_some _ _).symm.trans H; rw [hy731]; with_reducible exact H2_) | (have H2_ := (Option.bind_some _ _).symm.trans H; with_reducible exact H2_) | with_reducible exact H | (rw [hy731]; exact H) | exact H
                                              have Ny731 := Aside0.mk hy731
                                              clear hy731
                                              by_cases c43 : x12_5.length < 5864062014805
                                              · rw [if_pos c43] at H
                                                have LMc43 := Aside0.mk c43
                                                clear c43
                                                obtain ⟨y734, hy734⟩ : ∃ y_ : List (List ByteArray), y_ = (x12_5 ++ [y731]) := ⟨_, rfl⟩
                                                replace H : (impl_LengthenAll.l3 k5 l1 x9_3 y734 (rd_L9 x6_2 x58_4) t711 (t711.length : Int) x33_2 x6_2 (x6_2.length : Int) x58_4 x9_3 (x9_3.length : Int) (wrap64 (x64_5 + 1))) = some (r1, r2) := by first | (rw [hy734]; with_reducible exact H) | (have H2_ := (Option.bind_some _ _).symm.trans H; rw [hy734]; with_reducible exact H2_) | (have H2_ := (Option.bind_some _ _).symm.trans H; with_reducible exact H2_) | with_reducible exact H | (rw [hy734]; exact H) | exact H
                                                have Ny734 := Aside0.mk hy734
                                                clear hy734
                                                have H' := Aside0.mk H
                                                clear H
                                                have p727 : 0 ≤ (x64_5 : Int) := of_decide_eq_true (by first | (with_reducible assumption) | assumption)
                                                have q727 : x64_5 < (x9_3.length : Int) := of_decide_eq_true (by first | (with_reducible assumption) | assumption)
                                                obtain ⟨ad727, e727, hx727_0⟩ := Kd.at_string (Kd.R_reads' HO_62.out).2.2 x64_5 p727 q727
                                                cases e727
                                                replace p727 := eq_true p727
                                                replace q727 := eq_true q727
                                                have HRn := Aside0.mk (show Kd.C Kd.string wr A726_0 (rd_L9 x6_2 x58_4).length (rd_L9 x6_2 x58_4) from by obtain ⟨adq, Aq, cq, eq_, hxq, hlq, hiq⟩ := at_L9 (Kd.S_reads' HO_56.out).2.2 x58_4 HP726.out.1 HP726.out.2; cases eq_; have h9 := Option.some.inj (hxq.symm.trans HCB.out); have q1 : Aq = A726_0 := (by injection h9); subst q1; exact hiq)
                                                go_wp2_with (first | ((with_reducible refine gate_callee (f := 55) rfl ?_); refine goesL_ (some 70) rfl rfl Tryd.func55 (by kernel_rfl) rfl #[.slice A726_0 (rd_L9 x6_2 x58_4).length c726_0] rfl (by (try simp only [List.map_toArray, List.map_cons, List.map_nil]); first | done | rfl | (simp only [List.length_drop, List.length_take]; rfl)) ?_; (with_reducible refine (slices_Clone_string.calls _ _ (rd_L9 x6_2 x58_4) t728 _ ?side1 ?side2 A41.out).mono ?_); (case side1 => repeat (first | exact HRn.out | (with_reducible refine Kd.C_alloc ?_ _) | (with_reducible refine Kd.C_drewN ?_ _) | (with_reducible refine Kd.C_drew ?_))); (case side2 => exact HC726_0.out); rintro e w44 ⟨v729, rfl, ho0, hb⟩; refine ⟨_, rfl, ?_⟩; have HCB1 := Aside0.mk (pw_cell_below hb HCB.out); clear HCB; have HCB := HCB1; clear HCB1; have n0_ := Aside0.mk (Kd.R_elder' (by (with_reducible repeat (first | apply Kd.R_alloc | apply Kd.R_drewN | apply Kd.R_drew)); exact HO_9.out) (Kd.R_base ho0) hb); have n1_ := Aside0.mk (Kd.S_elder' (by (with_reducible repeat (first | apply Kd.S_alloc | apply Kd.S_drewN | apply Kd.S_drew)); exact HO_12.out) (Kd.R_base ho0) hb); have n2_ := Aside0.mk (Kd.R_elder' (by (with_reducible repeat (first | apply Kd.R_alloc | apply Kd.R_drewN | apply Kd.R_drew)); exact HO_31.out) (Kd.R_base ho0) hb); have n3_ := Aside0.mk (Kd.S_elder' (by (with_reducible repeat (first | apply Kd.S_alloc | apply Kd.S_drewN | apply Kd.S_drew)); exact HO_56.out) (Kd.R_base ho0) hb); have n4_ := Aside0.mk (Kd.R_elder' (by (with_reducible repeat (first | apply Kd.R_alloc | apply Kd.R_drewN | apply Kd.R_drew)); exact HO_62.out) (Kd.R_base ho0) hb); have n5_ := Aside0.mk (Kd.R_lower (Kd.R_new' (Kd.R_new' (Kd.R_new' ho0 (Kd.R_lt (by (with_reducible repeat (first | apply Kd.R_alloc | apply Kd.R_drewN | apply Kd.R_drew)); exact HO_9.out))) (Kd.R_lt (by (with_reducible repeat (first | apply Kd.R_alloc | apply Kd.R_drewN | apply Kd.R_drew)); exact HO_31.out))) (Kd.R_lt (by (with_reducible repeat (first | apply Kd.R_alloc | apply Kd.R_drewN | apply Kd.R_drew)); exact HO_62.out))) (below_size (by repeat (first | (with_reducible first | exact HB.out | apply below_alloc | apply pw_below_drewN | apply below_drew1) | exact HB.out)))); have n6_ := Aside0.mk (below_step (by repeat (first | (with_reducible first | exact HB.out | apply below_alloc | apply pw_below_drewN | apply below_drew1) | exact HB.out)) hb); clear HO_9; clear HO_12; clear HO_31; clear HO_56; clear HO_62; clear HB; have HO_9 := n0_; have HO_12 := n1_; have HO_31 := n2_; have HO_56 := n3_; have HO_62 := n4_; have HO730 := n5_; have HB := n6_; clear n0_ n1_ n2_ n3_ n4_ n5_ n6_; (try clear hb); (try clear hb2); (try clear hk); (try clear hi); (try clear ho0)) | ((with_reducible refine gate_builtin (b := .append) (xs := #[.tmp 70, .tmp 72]) rfl ?_); at_builtin; refine Kd.R_append Kd.string (w0 := w) w.heap.size rfl (.tmp 70) (.tmp 72) 37 9 (.string ⟨#[]⟩) 16 rfl Tryd.underlying37 info9 rfl (by decide) (by omega) v729 t728 (rdOf ByteArray.empty x9_3 x64_5) [.string (rdOf ByteArray.empty x9_3 x64_5)] (fun k_ => some k_ ≠ (.slice (some ad727) x9_3.length co37 : Value).ownBlock ∧ some k_ ≠ (.slice (some ad714) t711.length co15 : Value).ownBlock ∧ some k_ ≠ (.slice (some ad727) x9_3.length co37 : Value).ownBlock) (fun _ => False) rfl rfl ?aP (fun _ hk => hk.elim) ?aF ?aO ?aB ?aS ?aL ?_; (case aP => exact rfl); (case aB => exact (by repeat (first | (with_reducible first | exact HB.out | apply below_alloc | apply pw_below_drewN | apply below_drew1) | exact HB.out))); (case aF => exact (fun k_ hk => ⟨Kd.fresh' (Kd.R_lt (by (with_reducible repeat (first | apply Kd.R_alloc | apply Kd.R_drewN | apply Kd.R_drew)); exact HO_9.out)) k_ hk, Kd.fresh' (Kd.R_lt (by (with_reducible repeat (first | apply Kd.R_alloc | apply Kd.R_drewN | apply Kd.R_drew)); exact HO_31.out)) k_ hk, Kd.fresh' (Kd.R_lt (by (with_reducible repeat (first | apply Kd.R_alloc | apply Kd.R_drewN | apply Kd.R_drew)); exact HO_62.out)) k_ hk⟩)); (case aO => exact (by (with_reducible repeat (first | apply Kd.R_alloc | apply Kd.R_drewN | apply Kd.R_drew)); exact Kd.R_mono HO730.out (fun _ hk => ⟨hk.1.1.2, ⟨hk.1.2, hk.2⟩⟩))); (case aS => exact (below_size (by repeat (first | (with_reducible first | exact HB.out | apply below_alloc | apply pw_below_drewN | apply below_drew1) | exact HB.out)))); (case aL => have := LMc42.out; omega); intro v732 w45 ho hb hg hat; have HCB1 := Aside0.mk (cell_grown hg (by first | exact HCB.out | exact Lib.cell?_alloc_some _ HCB.out) (by rw [add_block]; obtain ⟨f_, hR_⟩ := HO_56.out; have h_ := hR_.1 _ rfl; first | exact h_ | exact h_.1 | exact h_.2 | exact h_.1.1 | exact h_.1.2 | exact h_.2.1 | exact h_.2.2 | exact h_.1.1.1 | exact h_.1.1.2 | exact h_.1.2.1 | exact h_.1.2.2 | exact h_.2.1.1 | exact h_.2.1.2 | exact h_.2.2.1 | exact h_.2.2.2 | exact h_.1.1.1.1 | exact h_.1.1.1.2 | exact h_.1.1.2.1 | exact h_.1.1.2.2 | exact h_.1.2.1.1 | exact h_.1.2.1.2 | exact h_.1.2.2.1 | exact h_.1.2.2.2 | exact h_.2.1.1.1 | exact h_.2.1.1.2 | exact h_.2.1.2.1 | exact h_.2.1.2.2 | exact h_.2.2.1.1 | exact h_.2.2.1.2 | exact h_.2.2.2.1 | exact h_.2.2.2.2 | exact h_.1.1.1.1.1 | exact h_.1.1.1.1.2 | exact h_.1.1.1.2.1 | exact h_.1.1.1.2.2 | exact h_.1.1.2.1.1 | exact h_.1.1.2.1.2 | exact h_.1.1.2.2.1 | exact h_.1.1.2.2.2 | exact h_.1.2.1.1.1 | exact h_.1.2.1.1.2 | exact h_.1.2.1.2.1 | exact h_.1.2.1.2.2 | exact h_.1.2.2.1.1 | exact h_.1.2.2.1.2 | exact h_.1.2.2.2.1 | exact h_.1.2.2.2.2 | exact h_.2.1.1.1.1 | exact h_.2.1.1.1.2 | exact h_.2.1.1.2.1 | exact h_.2.1.1.2.2 | exact h_.2.1.2.1.1 | exact h_.2.1.2.1.2 | exact h_.2.1.2.2.1 | exact h_.2.1.2.2.2 | exact h_.2.2.1.1.1 | exact h_.2.2.1.1.2 | exact h_.2.2.1.2.1 | exact h_.2.2.1.2.2 | exact h_.2.2.2.1.1 | exact h_.2.2.2.1.2 | exact h_.2.2.2.2.1 | exact h_.2.2.2.2.2)); clear HCB; have HCB := HCB1; clear HCB1; rw [← Ny731.out] at ho; have n0_ := Aside0.mk (Kd.R_after (ok := (fun k_ => some k_ ≠ (.slice (some ad714) t711.length co15 : Value).ownBlock)) (by (with_reducible repeat (first | apply Kd.R_alloc | apply Kd.R_drewN | apply Kd.R_drew)); exact HO_9.out) hg hat); have n1_ := Aside0.mk (Kd.S_after (ok := (fun k_ => some k_ ≠ (.slice (some ad727) x9_3.length co37 : Value).ownBlock ∧ some k_ ≠ (.slice (some ad714) t711.length co15 : Value).ownBlock ∧ some k_ ≠ (.slice (some ad726) x6_2.length co33 : Value).ownBlock ∧ some k_ ≠ (.slice (some ad727) x9_3.length co37 : Value).ownBlock)) (by (with_reducible repeat (first | apply Kd.S_alloc | apply Kd.S_drewN | apply Kd.S_drew)); exact HO_12.out) hg hat); have n2_ := Aside0.mk (Kd.R_after (ok := (fun k_ => some k_ ≠ (.slice (some ad727) x9_3.length co37 : Value).ownBlock ∧ some k_ ≠ (.slice (some ad727) x9_3.length co37 : Value).ownBlock)) (by (with_reducible repeat (first | apply Kd.R_alloc | apply Kd.R_drewN | apply Kd.R_drew)); exact HO_31.out) hg hat); have n3_ := Aside0.mk (Kd.S_after (ok := (fun k_ => some k_ ≠ (.slice (some ad727) x9_3.length co37 : Value).ownBlock ∧ some k_ ≠ (u12 : Value).ownBlock ∧ some k_ ≠ (.slice (some ad714) t711.length co15 : Value).ownBlock ∧ some k_ ≠ (.slice (some ad727) x9_3.length co37 : Value).ownBlock)) (by (with_reducible repeat (first | apply Kd.S_alloc | apply Kd.S_drewN | apply Kd.S_drew)); exact HO_56.out) hg hat); have n4_ := Aside0.mk (Kd.R_after (ok := (fun k_ => some k_ ≠ (.slice (some ad714) t711.length co15 : Value).ownBlock)) (by (with_reducible repeat (first | apply Kd.R_alloc | apply Kd.R_drewN | apply Kd.R_drew)); exact HO_62.out) hg hat); have n5_ := Aside0.mk (hb); have n6_ := Aside0.mk (ho); clear HO_9; clear HO_12; clear HO_31; clear HO_56; clear HO_62; clear HB; clear HO730; have HO_9 := n0_; have HO_12 := n1_; have HO_31 := n2_; have HO_56 := n3_; have HO_62 := n4_; have HB := n5_; have HO733 := n6_; clear n0_ n1_ n2_ n3_ n4_ n5_ n6_; clear ho hb hg hat; obtain ⟨Ao47, co47, eo47⟩ := Kd.R_slice HO733.out; subst eo47) | ((with_reducible refine gate_builtin (b := .append) (xs := #[.tmp 68, .tmp 74]) rfl ?_); at_builtin; refine Kd.S_append (Kd.slice 9 Kd.string) (w0 := w) w.heap.size rfl (.tmp 68) (.tmp 74) 68 37 (.slice none 0 0) 24 rfl Tryd.underlying68 info37 rfl (by decide) (by omega) u12 x12_5 y731 [.slice Ao47 y731.length co47] (fun k_ => some k_ ≠ (.slice (some ad727) x9_3.length co37 : Value).ownBlock ∧ some k_ ≠ (.slice (some ad714) t711.length co15 : Value).ownBlock ∧ some k_ ≠ (.slice (some ad726) x6_2.length co33 : Value).ownBlock ∧ some k_ ≠ (.slice (some ad727) x9_3.length co37 : Value).ownBlock) (fun k_ => some k_ = (.slice Ao47 y731.length co47 : Value).ownBlock) rfl rfl ?aP (fun k_ hk_ => ((Kd.R_mono (ok' := fun k_ => ((fun k_ => some k_ ≠ (.slice (some ad727) x9_3.length co37 : Value).ownBlock ∧ some k_ ≠ (.slice (some ad714) t711.length co15 : Value).ownBlock ∧ some k_ ≠ (.slice (some ad726) x6_2.length co33 : Value).ownBlock ∧ some k_ ≠ (.slice (some ad727) x9_3.length co37 : Value).ownBlock)) k_ ∧ some k_ ≠ (u12 : Value).ownBlock) (Kd.R_apart' (Kd.R_apart' (HO733.out) (Kd.S_typed HO_56.out) (by decide)) (Kd.S_typed HO_12.out) (by decide)) (fun k_ hk => ⟨⟨hk.1.1.1, ⟨hk.1.1.2.1, ⟨hk.1.2, hk.1.1.2.2⟩⟩⟩, hk.2⟩))).1 k_ hk_.symm) ?aF ?aO ?aB ?aS ?aL ?_; (case aP => exact Kd.M_row (Kd.R_mono (Kd.R_tight rfl (Kd.R_mono (ok' := fun k_ => ((fun k_ => some k_ ≠ (.slice (some ad727) x9_3.length co37 : Value).ownBlock ∧ some k_ ≠ (.slice (some ad714) t711.length co15 : Value).ownBlock ∧ some k_ ≠ (.slice (some ad726) x6_2.length co33 : Value).ownBlock ∧ some k_ ≠ (.slice (some ad727) x9_3.length co37 : Value).ownBlock)) k_ ∧ some k_ ≠ (u12 : Value).ownBlock) (Kd.R_apart' (Kd.R_apart' (HO733.out) (Kd.S_typed HO_56.out) (by decide)) (Kd.S_typed HO_12.out) (by decide)) (fun k_ hk => ⟨⟨hk.1.1.1, ⟨hk.1.1.2.1, ⟨hk.1.2, hk.1.1.2.2⟩⟩⟩, hk.2⟩))) (fun _ h_ => h_))); (case aB => exact (by repeat (first | (with_reducible first | exact HB.out | apply below_alloc | apply pw_below_drewN | apply below_drew1) | exact HB.out))); (case aF => exact (fun k_ hk => ⟨Kd.fresh' (Kd.R_lt (by (with_reducible repeat (first | apply Kd.R_alloc | apply Kd.R_drewN | apply Kd.R_drew)); exact HO_9.out)) k_ hk, Kd.fresh' (Kd.R_lt (by (with_reducible repeat (first | apply Kd.R_alloc | apply Kd.R_drewN | apply Kd.R_drew)); exact HO_31.out)) k_ hk, Kd.fresh' (Kd.S_lt (by (with_reducible repeat (first | apply Kd.S_alloc | apply Kd.S_drewN | apply Kd.S_drew)); exact HO_56.out)) k_ hk, Kd.fresh' (Kd.R_lt (by (with_reducible repeat (first | apply Kd.R_alloc | apply Kd.R_drewN | apply Kd.R_drew)); exact HO_62.out)) k_ hk⟩)); (case aO => exact (by (with_reducible repeat (first | apply Kd.S_alloc | apply Kd.S_drewN | apply Kd.S_drew)); exact Kd.S_mono HO_12.out (fun k_ hk => ⟨⟨hk.1.1, ⟨hk.1.2.1, ⟨hk.1.2.2.1, hk.1.2.2.2⟩⟩⟩, fun e_ => hk.2 e_⟩))); (case aS => exact (below_size (by repeat (first | (with_reducible first | exact HB.out | apply below_alloc | apply pw_below_drewN | apply below_drew1) | exact HB.out)))); (case aL => have := LMc43.out; omega); intro v735 w46 ho hb hg hat; have HCB1 := Aside0.mk (cell_grown hg (by first | exact HCB.out | exact Lib.cell?_alloc_some _ HCB.out) (by rw [add_block]; obtain ⟨f_, hR_⟩ := HO_56.out; have h_ := hR_.1 _ rfl; first | exact h_ | exact h_.1 | exact h_.2 | exact h_.1.1 | exact h_.1.2 | exact h_.2.1 | exact h_.2.2 | exact h_.1.1.1 | exact h_.1.1.2 | exact h_.1.2.1 | exact h_.1.2.2 | exact h_.2.1.1 | exact h_.2.1.2 | exact h_.2.2.1 | exact h_.2.2.2 | exact h_.1.1.1.1 | exact h_.1.1.1.2 | exact h_.1.1.2.1 | exact h_.1.1.2.2 | exact h_.1.2.1.1 | exact h_.1.2.1.2 | exact h_.1.2.2.1 | exact h_.1.2.2.2 | exact h_.2.1.1.1 | exact h_.2.1.1.2 | exact h_.2.1.2.1 | exact h_.2.1.2.2 | exact h_.2.2.1.1 | exact h_.2.2.1.2 | exact h_.2.2.2.1 | exact h_.2.2.2.2 | exact h_.1.1.1.1.1 | exact h_.1.1.1.1.2 | exact h_.1.1.1.2.1 | exact h_.1.1.1.2.2 | exact h_.1.1.2.1.1 | exact h_.1.1.2.1.2 | exact h_.1.1.2.2.1 | exact h_.1.1.2.2.2 | exact h_.1.2.1.1.1 | exact h_.1.2.1.1.2 | exact h_.1.2.1.2.1 | exact h_.1.2.1.2.2 | exact h_.1.2.2.1.1 | exact h_.1.2.2.1.2 | exact h_.1.2.2.2.1 | exact h_.1.2.2.2.2 | exact h_.2.1.1.1.1 | exact h_.2.1.1.1.2 | exact h_.2.1.1.2.1 | exact h_.2.1.1.2.2 | exact h_.2.1.2.1.1 | exact h_.2.1.2.1.2 | exact h_.2.1.2.2.1 | exact h_.2.1.2.2.2 | exact h_.2.2.1.1.1 | exact h_.2.2.1.1.2 | exact h_.2.2.1.2.1 | exact h_.2.2.1.2.2 | exact h_.2.2.2.1.1 | exact h_.2.2.2.1.2 | exact h_.2.2.2.2.1 | exact h_.2.2.2.2.2)); clear HCB; have HCB := HCB1; clear HCB1; rw [← Ny734.out] at ho; have n0_ := Aside0.mk (Kd.R_over' (by (with_reducible repeat (first | apply Kd.R_alloc | apply Kd.R_drewN | apply Kd.R_drew)); exact HO_9.out) (Kd.S_typed (by (with_reducible repeat (first | apply Kd.S_alloc | apply Kd.S_drewN | apply Kd.S_drew)); exact HO_12.out)) (by decide) hg); have n1_ := Aside0.mk (Kd.R_over' (by (with_reducible repeat (first | apply Kd.R_alloc | apply Kd.R_drewN | apply Kd.R_drew)); exact HO_31.out) (Kd.S_typed (by (with_reducible repeat (first | apply Kd.S_alloc | apply Kd.S_drewN | apply Kd.S_drew)); exact HO_12.out)) (by decide) hg); have n2_ := Aside0.mk (Kd.S_after (ok := (fun k_ => some k_ ≠ (.slice (some ad727) x9_3.length co37 : Value).ownBlock ∧ some k_ ≠ (.slice (some ad714) t711.length co15 : Value).ownBlock ∧ some k_ ≠ (.slice (some ad727) x9_3.length co37 : Value).ownBlock ∧ some k_ ≠ (.slice Ao47 y731.length co47 : Value).ownBlock)) (by (with_reducible repeat (first | apply Kd.S_alloc | apply Kd.S_drewN | apply Kd.S_drew)); exact Kd.S_mono HO_56.out (fun _ hk => ⟨⟨hk.1.1, ⟨hk.1.2.2.1, ⟨hk.1.2.2.2, hk.2⟩⟩⟩, hk.1.2.1⟩)) hg hat); have n3_ := Aside0.mk (Kd.R_over' (by (with_reducible repeat (first | apply Kd.R_alloc | apply Kd.R_drewN | apply Kd.R_drew)); exact HO_62.out) (Kd.S_typed (by (with_reducible repeat (first | apply Kd.S_alloc | apply Kd.S_drewN | apply Kd.S_drew)); exact HO_12.out)) (by decide) hg); have n4_ := Aside0.mk (hb); have n5_ := Aside0.mk (ho); clear HO_9; clear HO_31; clear HO_56; clear HO_62; clear HB; clear HO_12; clear HO733; have HO_9 := n0_; have HO_31 := n1_; have HO_56 := n2_; have HO_62 := n3_; have HB := n4_; have HO736 := n5_; clear n0_ n1_ n2_ n3_ n4_ n5_; clear ho hb hg hat))
                                                go_roundg k5
                                                case measure => have := HJ2.out; have := HK2.out; have := HK3.out; have := HK4.out; have := HK5.out; omega
                                                case rel => exact ⟨(y734), (wrap64 (x64_5 + 1)), (by first | rfl | (simp; done) | (simp [*]; done)), H', ⟨by have := HJ2.out; have := HK2.out; have := HK3.out; have := HK4.out; have := HK5.out; omega⟩, ⟨by (with_reducible repeat (first | apply Kd.R_alloc | apply Kd.R_drewN | apply Kd.R_drew)); exact Kd.R_mono HO_9.out (fun _ hk => hk.1)⟩, ⟨by (with_reducible repeat (first | apply Kd.S_alloc | apply Kd.S_drewN | apply Kd.S_drew)); exact HO736.out⟩, ⟨by (with_reducible repeat (first | apply Kd.R_alloc | apply Kd.R_drewN | apply Kd.R_drew)); exact Kd.R_mono HO_31.out (fun _ hk => ⟨hk.1.1, hk.1.2⟩)⟩, ⟨by (with_reducible repeat (first | apply Kd.S_alloc | apply Kd.S_drewN | apply Kd.S_drew)); exact Kd.S_mono HO_56.out (fun _ hk => ⟨hk.1.1, ⟨hk.2, ⟨hk.1.2.1, hk.1.2.2.1⟩⟩⟩)⟩, ⟨by (with_reducible repeat (first | apply Kd.R_alloc | apply Kd.R_drewN | apply Kd.R_drew)); exact Kd.R_mono HO_62.out (fun _ hk => hk.1)⟩, ⟨by repeat (first | (with_reducible first | exact HB.out | apply below_alloc | apply pw_below_drewN | apply below_drew1) | exact HB.out)⟩, ⟨by first | exact HCB.out | exact Lib.cell?_alloc_some _ HCB.out⟩⟩
                                              · rw [if_neg c43] at H
                                                exact absurd H (by simp)
                                            · rw [if_neg c42] at H
                                              exact absurd H (by simp)
                                          · rw [if_neg c40] at H
                                            exact absurd H (by simp)
                                        · rw [if_neg c39] at H
                                          exact absurd H (by simp)
                                      · rw [if_neg c38] at H
                                        have c38b0 : decide (x64_5 < (x9_3.length : Int)) = false := decide_eq_false c38
                                        clear c38
                                        have H' := Aside0.mk H
                                        clear H
                                        go_wp2
                                        go_roundg k5
                                        case measure => have := HJ2.out; have := HK2.out; have := HK3.out; have := HK4.out; have := HK5.out; omega
                                        case rel => exact ⟨(x12_5), (wrap64 (x58_4 + 1)), (by first | rfl | (simp; done) | (simp [*]; done)), H', ⟨by have := HJ2.out; have := HK2.out; have := HK3.out; have := HK4.out; have := HK5.out; omega⟩, ⟨by (with_reducible repeat (first | apply Kd.R_alloc | apply Kd.R_drewN | apply Kd.R_drew)); exact HO_9.out⟩, ⟨by (with_reducible repeat (first | apply Kd.S_alloc | apply Kd.S_drewN | apply Kd.S_drew)); exact Kd.S_mono HO_12.out (fun _ hk => ⟨hk.1, ⟨hk.2.1, hk.2.2.1⟩⟩)⟩, ⟨by (with_reducible repeat (first | apply Kd.R_alloc | apply Kd.R_drewN | apply Kd.R_drew)); exact Kd.R_mono HO_31.out (fun _ hk => hk.1)⟩, ⟨by (with_reducible repeat (first | apply Kd.S_alloc | apply Kd.S_drewN | apply Kd.S_drew)); exact Kd.S_mono HO_56.out (fun _ hk => ⟨hk.1, ⟨hk.2.1, hk.2.2.1⟩⟩)⟩, ⟨by repeat (first | (with_reducible first | exact HB.out | apply below_alloc | apply pw_below_drewN | apply below_drew1) | exact HB.out)⟩⟩
                                · rw [if_neg c36] at H
                                  exact absurd H (by simp)
                              · rw [if_neg c35] at H
                                exact absurd H (by simp)
                            · rw [if_neg c34] at H
                              have c34b0 : decide (x58_4 < (x6_2.length : Int)) = false := decide_eq_false c34
                              clear c34
                              by_cases c48 : (x12_4.length : Int) > 200
                              · rw [if_pos c48] at H
                                have c48b0 : decide (200 < (x12_4.length : Int)) = true := decide_eq_true c48
                                have c48b1 : decide (200 < x12_4.length) = true := decide_eq_true (by omega)
                                clear c48
                                simp only [Option.some.injEq, Prod.mk.injEq] at H
                                obtain ⟨rfl, rfl⟩ := H
                                obtain ⟨Ao49, co49, eo49⟩ := Kd.S_slice HO_12.out
                                subst eo49
                                go_wp2
                                go_ret2
                                exact ⟨_, by first | rfl | (simp [errW_none, errW_some] <;> rfl) | (simp [*, errW_none, errW_some] <;> rfl), by first | exact Kd.R_nil _ _ _ _ _ | exact Kd.N_nil _ _ _ _ _ | exact Kd.V_nil _ _ _ _ _ | exact Kd.Q_nil _ _ _ _ _ | exact Kd.S_nil _ _ _ _ _, by repeat (first | (with_reducible first | exact HB.out | apply below_alloc | apply pw_below_drewN | apply below_drew1) | exact HB.out)⟩
                              · rw [if_neg c48] at H
                                have c48b0 : decide (200 < (x12_4.length : Int)) = false := decide_eq_false c48
                                have c48b1 : decide (200 < x12_4.length) = false := decide_eq_false (by omega)
                                clear c48
                                have H' := Aside0.mk H
                                clear H
                                obtain ⟨Ao50, co50, eo50⟩ := Kd.S_slice HO_12.out
                                subst eo50
                                go_wp2
                                go_roundg k4
                                case measure => have := HJ2.out; have := HK2.out; have := HK3.out; have := HK4.out; omega
                                case rel => exact ⟨(x12_4), (wrap64 (x33_2 + 1)), (by first | rfl | (simp; done) | (simp [*]; done)), H', ⟨by have := HJ2.out; have := HK2.out; have := HK3.out; have := HK4.out; omega⟩, ⟨by (with_reducible repeat (first | apply Kd.S_alloc | apply Kd.S_drewN | apply Kd.S_drew)); exact Kd.S_mono HO_12.out (fun _ hk => hk.2.1)⟩, ⟨by (with_reducible repeat (first | apply Kd.R_alloc | apply Kd.R_drewN | apply Kd.R_drew)); exact Kd.R_mono HO_31.out (fun _ hk => trivial)⟩, ⟨by repeat (first | (with_reducible first | exact HB.out | apply below_alloc | apply pw_below_drewN | apply below_drew1) | exact HB.out)⟩⟩
                · rw [if_neg c18] at H
                  exact absurd H (by simp)
              · rw [if_neg c17] at H
                exact absurd H (by simp)
            · rw [if_neg c16] at H
              have c16b0 : decide (x33_2 < (t711.length : Int)) = false := decide_eq_false c16
              clear c16
              obtain ⟨y737, hy737⟩ : ∃ y_ : List ByteArray, y_ = (([] : List ByteArray)) := ⟨_, rfl⟩
              replace H : (impl_LengthenAll.l4 k2 y737 x6_2 (x6_2.length : Int) 0) = some (r1, r2) := by first | (rw [hy737]; with_reducible exact H) | (have H2_ := (Option.bind_some _ _).symm.trans H; rw [hy737]; with_reducible exact H2_) | (have H2_ := (Option.bind_some _ _).symm.trans H; with_reducible exact H2_) | with_reducible exact H | (rw [hy737]; exact H) | exact H
              have Ny737 := Aside0.mk hy737
              clear hy737
              have H' := Aside0.mk H
              clear H
              go_wp2_with (first | ((with_reducible refine gate_dst (N := 83) rfl ?_); refine Kd.R_lit Kd.string _ 9 ?hg (N := 83) ?hd (xs := ([] : List ByteArray)) (inner := []) (ok := fun _ => True) (okp := fun _ => True) ?hr ?hp (fun _ hk => hk) trivial (Below.refl _ _) (Nat.le_refl _) (by simp) ?_; (case hd => rfl); (case hg => rfl); (case hr => first | (go_simp; done) | (go_simp; rfl)); (case hp => exact (Reps.none _ _)); intro v738 w51 ho52 hb hg_ hnew_; clear hg_ hnew_; (first | rw [← Ny737.out] at ho52 | (simp only [Int.reduceToNat] at ho52; rw [← Ny737.out] at ho52)); have n0_ := Aside0.mk (Kd.S_elder' (by (with_reducible repeat (first | apply Kd.S_alloc | apply Kd.S_drewN | apply Kd.S_drew)); exact HO_6.out) (Kd.R_base ho52) hb); have n1_ := Aside0.mk (Kd.R_elder' (by (with_reducible repeat (first | apply Kd.R_alloc | apply Kd.R_drewN | apply Kd.R_drew)); exact HO_31.out) (Kd.R_base ho52) hb); have n2_ := Aside0.mk (Kd.R_lower (Kd.R_new' ho52 (Kd.R_lt (by (with_reducible repeat (first | apply Kd.R_alloc | apply Kd.R_drewN | apply Kd.R_drew)); exact HO_31.out))) (below_size (by repeat (first | (with_reducible first | exact HB.out | apply below_alloc | apply pw_below_drewN | apply below_drew1) | exact HB.out)))); have n3_ := Aside0.mk (below_step (by repeat (first | (with_reducible first | exact HB.out | apply below_alloc | apply pw_below_drewN | apply below_drew1) | exact HB.out)) hb); clear HO_6; clear HO_31; clear HB; have HO_6 := n0_; have HO_31 := n1_; have HO739 := n2_; have HB := n3_; clear n0_ n1_ n2_ n3_; clear hb ho52; obtain ⟨Ao53, co53, eo53⟩ := Kd.S_slice HO_6.out; subst eo53))
              go_loopg [17, 86] k2 (fun kq v17 v86 w' => ∃ (x17_3 : List ByteArray) (x86_3 : Int), v86 = .int .i64 x86_3 ∧ Aside0 (impl_LengthenAll.l4 kq x17_3 x6_2 (x6_2.length : Int) x86_3 = some (r1, r2)) ∧ Aside0 (kq ≤ k2) ∧ Aside0 (Kd.R Kd.string 9 w' w.heap.size (fun _ => True) v17 x17_3) ∧ Aside0 (Kd.S (Kd.slice 9 Kd.string) 37 w' w.heap.size (fun k_ => some k_ ≠ (v17 : Value).ownBlock) (.slice Ao53 x6_2.length co53) x6_2) ∧ Aside0 (Below w.heap.size w w'))
              case atStart => exact ⟨(y737), (0), (by first | rfl | (simp; done) | (simp [*]; done)), H', ⟨Nat.le_refl _⟩, ⟨by (with_reducible repeat (first | apply Kd.R_alloc | apply Kd.R_drewN | apply Kd.R_drew)); exact Kd.R_mono HO739.out (fun _ hk => trivial)⟩, ⟨by (with_reducible repeat (first | apply Kd.S_alloc | apply Kd.S_drewN | apply Kd.S_drew)); exact Kd.S_mono HO_6.out (fun _ hk => hk.2)⟩, ⟨by repeat (first | (with_reducible first | exact HB.out | apply below_alloc | apply pw_below_drewN | apply below_drew1) | exact HB.out)⟩⟩
              case round =>
                clear H'
                try clear c1
                try clear c2
                try clear p2
                try clear c3
                try clear c4
                try clear c5
                try clear p6
                try clear c7
                try clear p7
                try clear q7
                try clear hx7
                try clear c10
                try clear c16
                try clear c16b0
                try clear c17
                try clear c17b0
                try clear c18
                try clear c18b0
                try clear c21
                try clear c21b0
                try clear c22
                try clear c22b0
                try clear c23
                try clear c23b0
                try clear c24
                try clear c24b0
                try clear c24b1
                try clear c25
                try clear c34
                try clear c34b0
                try clear c35
                try clear c35b0
                try clear c36
                try clear c36b0
                try clear c38
                try clear c38b0
                try clear c39
                try clear c39b0
                try clear c40
                try clear c40b0
                try clear c42
                try clear c43
                try clear c48
                try clear c48b0
                try clear c48b1
                try clear c49
                try clear hcz27_0
                try clear hcz27_1
                try clear hcz30_0
                try clear hcz30_1
                try clear hfz27_0
                try clear hfz27_1
                try clear hfz30_0
                try clear hfz30_1
                try clear hx714_0
                try clear hx718_0
                try clear hx718_1
                try clear hx726_0
                try clear hx727_0
                try clear p2
                try clear p6
                try clear p7
                try clear p714
                try clear p718
                try clear p726
                try clear p727
                try clear q7
                try clear q714
                try clear q718
                try clear q726
                try clear q727
                obtain ⟨x17_3, x86_3, rfl, HA, HK3, HO_17, HO_84, HB⟩ := hrel
                cases gk with
                | zero => exact absurd HA.out (by simp [impl_LengthenAll.l4])
                | succ k3 =>
                  have H := HA.out
                  clear HA
                  simp only [impl_LengthenAll.l4] at H
                  by_cases c54 : x86_3 < (x6_2.length : Int)
                  · rw [if_pos c54] at H
                    have c54b0 : decide (x86_3 < (x6_2.length : Int)) = true := decide_eq_true c54
                    clear c54
                    by_cases c55 : 0 ≤ x86_3
                    · rw [if_pos c55] at H
                      have c55b0 : decide (0 ≤ x86_3) = true := decide_eq_true c55
                      clear c55
                      by_cases c56 : x86_3 < (x6_2.length : Int)
                      · rw [if_pos c56] at H
                        have c56b0 : decide (x86_3 < (x6_2.length : Int)) = true := decide_eq_true c56
                        clear c56
                        replace H := Option.bind_eq_some_iff.mp H
                        obtain ⟨t741, A570, H⟩ := H
                        replace H : (if (t741.size : Int) ≤ 60 then (if x17_3.length < 8796093022208 then (impl_LengthenAll.l4 k3 (x17_3 ++ [t741]) x6_2 (x6_2.length : Int) (wrap64 (x86_3 + 1))) else (none)) else (impl_LengthenAll.l4 k3 x17_3 x6_2 (x6_2.length : Int) (wrap64 (x86_3 + 1)))) = some (r1, r2) := H
                        have A57 := Aside0.mk A570
                        clear A570
                        by_cases c58 : (t741.size : Int) ≤ 60
                        · rw [if_pos c58] at H
                          have c58b0 : decide ((t741.size : Int) ≤ 60) = true := decide_eq_true c58
                          have c58b1 : decide (t741.size ≤ 60) = true := decide_eq_true (by omega)
                          clear c58
                          by_cases c59 : x17_3.length < 8796093022208
                          · rw [if_pos c59] at H
                            have LMc59 := Aside0.mk c59
                            clear c59
                            obtain ⟨y742, hy742⟩ : ∃ y_ : List ByteArray, y_ = (x17_3 ++ [t741]) := ⟨_, rfl⟩
                            replace H : (impl_LengthenAll.l4 k3 y742 x6_2 (x6_2.length : Int) (wrap64 (x86_3 + 1))) = some (r1, r2) := by first | (rw [hy742]; with_reducible exact H) | (have H2_ := (Option.bind_some _ _).symm.trans H; rw [hy742]; with_reducible exact H2_) | (have H2_ := (Option.bind_some _ _).symm.trans H; with_reducible exact H2_) | with_reducible exact H | (rw [hy742]; exact H) | exact H
                            have Ny742 := Aside0.mk hy742
                            clear hy742
                            have H' := Aside0.mk H
                            clear H
                            have p740 : 0 ≤ (x86_3 : Int) := of_decide_eq_true (by first | (with_reducible assumption) | assumption)
                            have q740 : x86_3 < (x6_2.length : Int) := of_decide_eq_true (by first | (with_reducible assumption) | assumption)
                            obtain ⟨ad740, A740_0, c740_0, e740, hx740_0, hl740_0, hi740_0⟩ := at_L9 (Kd.S_reads' HO_84.out).2.2 x86_3 p740 q740
                            cases e740
                            obtain ⟨ce740, hce740, hMe740, hcc740⟩ := Kd.S_get HO_84.out [] x86_3 p740 (by first | exact q740 | exact of_decide_eq_true (by first | (with_reducible assumption) | assumption) | (have e_ := (Kd.S_reads' HO_84.out).1; omega))
                            obtain ⟨ve740_0, rfl, ge740_0⟩ := hMe740
                            have hv740_0 := hcc740 0 _ rfl
                            rw [Nat.add_zero, show ((Kd.slice 9 Kd.string)).sz = 1 from rfl, Nat.mul_one] at hv740_0
                            replace hv740_0 := Option.some.inj (hv740_0.symm.trans hx740_0)
                            rw [hv740_0] at ge740_0
                            have HL740_0 := Aside0.mk (show Kd.R Kd.string 9 _ _ _ _ (rd_L9 x6_2 x86_3) from ge740_0)
                            clear hv740_0 ge740_0
                            clear hcc740 hce740
                            have HR740_0 := Aside0.mk hi740_0
                            have HC740_0 := Aside0.mk hl740_0
                            clear hi740_0 hl740_0
                            replace p740 := eq_true p740
                            replace q740 := eq_true q740
                            go_wp2_with (first | ((with_reducible refine gate_callee (f := 38) rfl ?_); refine goesL_ (some 91) rfl rfl Tryd.func38 (by kernel_rfl) rfl #[.slice A740_0 (rd_L9 x6_2 x86_3).length c740_0, .string (⟨#[32]⟩ : ByteArray)] rfl (by (try simp only [List.map_toArray, List.map_cons, List.map_nil]); first | done | rfl | (simp only [List.length_drop, List.length_take]; rfl)) ?_; (with_reducible refine (strings_Join.calls _ _ (rd_L9 x6_2 x86_3) (⟨#[32]⟩ : ByteArray) t741 _ ?side1 ?side2 A57.out).mono ?_); (case side1 => repeat (first | exact (by repeat (first | (with_reducible exact HR740_0.out) | (with_reducible refine Kd.C_alloc ?_ _) | (with_reducible refine Kd.C_drewN ?_ _) | (with_reducible refine Kd.C_drew ?_) | exact HR740_0.out)) | (with_reducible refine Kd.C_alloc ?_ _) | (with_reducible refine Kd.C_drewN ?_ _) | (with_reducible refine Kd.C_drew ?_))); (case side2 => exact HC740_0.out); rintro e w60 ⟨rfl, hb⟩; refine ⟨_, rfl, ?_⟩; have n0_ := Aside0.mk (Kd.R_below (by (with_reducible repeat (first | apply Kd.R_alloc | apply Kd.R_drewN | apply Kd.R_drew)); exact HO_17.out) hb); have n1_ := Aside0.mk (Kd.S_below (by (with_reducible repeat (first | apply Kd.S_alloc | apply Kd.S_drewN | apply Kd.S_drew)); exact HO_84.out) hb); have n2_ := Aside0.mk (Kd.R_below (by (with_reducible repeat (first | apply Kd.R_alloc | apply Kd.R_drewN | apply Kd.R_drew)); exact HL740_0.out) hb); have n3_ := Aside0.mk (Kd.C_below (by repeat (first | (with_reducible exact HR740_0.out) | (with_reducible refine Kd.C_alloc ?_ _) | (with_reducible refine Kd.C_drewN ?_ _) | (with_reducible refine Kd.C_drew ?_) | exact HR740_0.out)) hb); have n4_ := Aside0.mk (below_step (by repeat (first | (with_reducible first | exact HB.out | apply below_alloc | apply pw_below_drewN | apply below_drew1) | exact HB.out)) hb); clear HO_17; clear HO_84; clear HL740_0; clear HR740_0; clear HB; have HO_17 := n0_; have HO_84 := n1_; have HL740_0 := n2_; have HR740_0 := n3_; have HB := n4_; clear n0_ n1_ n2_ n3_ n4_; (try clear hb); (try clear hb2); (try clear hk); (try clear hi)) | ((with_reducible refine gate_builtin (b := .append) (xs := #[.tmp 95, .tmp 97]) rfl ?_); at_builtin; refine Kd.R_append Kd.string (w0 := w) w.heap.size rfl (.tmp 95) (.tmp 97) 37 9 (.string ⟨#[]⟩) 16 rfl Tryd.underlying37 info9 rfl (by decide) (by omega) u17 x17_3 t741 [.string t741] (fun _ => True) (fun _ => False) rfl rfl ?aP (fun _ hk => hk.elim) ?aF ?aO ?aB ?aS ?aL ?_; (case aP => exact rfl); (case aB => exact (by repeat (first | (with_reducible first | exact HB.out | apply below_alloc | apply pw_below_drewN | apply below_drew1) | exact HB.out))); (case aF => exact (fun _ _ => trivial)); (case aO => exact (by (with_reducible repeat (first | apply Kd.R_alloc | apply Kd.R_drewN | apply Kd.R_drew)); exact HO_17.out)); (case aS => exact (below_size (by repeat (first | (with_reducible first | exact HB.out | apply below_alloc | apply pw_below_drewN | apply below_drew1) | exact HB.out)))); (case aL => have := LMc59.out; omega); intro v743 w61 ho hb hg hat; rw [← Ny742.out] at ho; have n0_ := Aside0.mk (Kd.S_after (ok := (fun _ => True)) (by (with_reducible repeat (first | apply Kd.S_alloc | apply Kd.S_drewN | apply Kd.S_drew)); exact Kd.S_mono HO_84.out (fun _ hk => ⟨trivial, hk⟩)) hg hat); have n1_ := Aside0.mk (Kd.R_after (ok := (fun k_ => some k_ ≠ (.slice (some ad740) x6_2.length co53 : Value).ownBlock)) (by (with_reducible repeat (first | apply Kd.R_alloc | apply Kd.R_drewN | apply Kd.R_drew)); exact Kd.R_mono HL740_0.out (fun _ hk => ⟨hk.2, hk.1⟩)) hg hat); have n2_ := Aside0.mk (hb); have n3_ := Aside0.mk (ho); clear HO_84; clear HL740_0; clear HB; clear HO_17; have HO_84 := n0_; have HL740_0 := n1_; have HB := n2_; have HO744 := n3_; clear n0_ n1_ n2_ n3_; clear ho hb hg hat))
                            go_roundg k3
                            case measure => have := HJ2.out; have := HK2.out; have := HK3.out; omega
                            case rel => exact ⟨(y742), (wrap64 (x86_3 + 1)), (by first | rfl | (simp; done) | (simp [*]; done)), H', ⟨by have := HJ2.out; have := HK2.out; have := HK3.out; omega⟩, ⟨by (with_reducible repeat (first | apply Kd.R_alloc | apply Kd.R_drewN | apply Kd.R_drew)); exact HO744.out⟩, ⟨by (with_reducible repeat (first | apply Kd.S_alloc | apply Kd.S_drewN | apply Kd.S_drew)); exact Kd.S_mono HO_84.out (fun _ hk => hk.2)⟩, ⟨by repeat (first | (with_reducible first | exact HB.out | apply below_alloc | apply pw_below_drewN | apply below_drew1) | exact HB.out)⟩⟩
                          · rw [if_neg c59] at H
                            exact absurd H (by simp)
                        · rw [if_neg c58] at H
                          have c58b0 : decide ((t741.size : Int) ≤ 60) = false := decide_eq_false c58
                          have c58b1 : decide (t741.size ≤ 60) = false := decide_eq_false (by omega)
                          clear c58
                          have H' := Aside0.mk H
                          clear H
                          have p740 : 0 ≤ (x86_3 : Int) := of_decide_eq_true (by first | (with_reducible assumption) | assumption)
                          have q740 : x86_3 < (x6_2.length : Int) := of_decide_eq_true (by first | (with_reducible assumption) | assumption)
                          obtain ⟨ad740, A740_0, c740_0, e740, hx740_0, hl740_0, hi740_0⟩ := at_L9 (Kd.S_reads' HO_84.out).2.2 x86_3 p740 q740
                          cases e740
                          obtain ⟨ce740, hce740, hMe740, hcc740⟩ := Kd.S_get HO_84.out [] x86_3 p740 (by first | exact q740 | exact of_decide_eq_true (by first | (with_reducible assumption) | assumption) | (have e_ := (Kd.S_reads' HO_84.out).1; omega))
                          obtain ⟨ve740_0, rfl, ge740_0⟩ := hMe740
                          have hv740_0 := hcc740 0 _ rfl
                          rw [Nat.add_zero, show ((Kd.slice 9 Kd.string)).sz = 1 from rfl, Nat.mul_one] at hv740_0
                          replace hv740_0 := Option.some.inj (hv740_0.symm.trans hx740_0)
                          rw [hv740_0] at ge740_0
                          have HL740_0 := Aside0.mk (show Kd.R Kd.string 9 _ _ _ _ (rd_L9 x6_2 x86_3) from ge740_0)
                          clear hv740_0 ge740_0
                          clear hcc740 hce740
                          have HR740_0 := Aside0.mk hi740_0
                          have HC740_0 := Aside0.mk hl740_0
                          clear hi740_0 hl740_0
                          replace p740 := eq_true p740
                          replace q740 := eq_true q740
                          go_wp2_with (first | ((with_reducible refine gate_callee (f := 38) rfl ?_); refine goesL_ (some 91) rfl rfl Tryd.func38 (by kernel_rfl) rfl #[.slice A740_0 (rd_L9 x6_2 x86_3).length c740_0, .string (⟨#[32]⟩ : ByteArray)] rfl (by (try simp only [List.map_toArray, List.map_cons, List.map_nil]); first | done | rfl | (simp only [List.length_drop, List.length_take]; rfl)) ?_; (with_reducible refine (strings_Join.calls _ _ (rd_L9 x6_2 x86_3) (⟨#[32]⟩ : ByteArray) t741 _ ?side1 ?side2 A57.out).mono ?_); (case side1 => repeat (first | exact (by repeat (first | (with_reducible exact HR740_0.out) | (with_reducible refine Kd.C_alloc ?_ _) | (with_reducible refine Kd.C_drewN ?_ _) | (with_reducible refine Kd.C_drew ?_) | exact HR740_0.out)) | (with_reducible refine Kd.C_alloc ?_ _) | (with_reducible refine Kd.C_drewN ?_ _) | (with_reducible refine Kd.C_drew ?_))); (case side2 => exact HC740_0.out); rintro e w62 ⟨rfl, hb⟩; refine ⟨_, rfl, ?_⟩; have n0_ := Aside0.mk (Kd.R_below (by (with_reducible repeat (first | apply Kd.R_alloc | apply Kd.R_drewN | apply Kd.R_drew)); exact HO_17.out) hb); have n1_ := Aside0.mk (Kd.S_below (by (with_reducible repeat (first | apply Kd.S_alloc | apply Kd.S_drewN | apply Kd.S_drew)); exact HO_84.out) hb); have n2_ := Aside0.mk (Kd.R_below (by (with_reducible repeat (first | apply Kd.R_alloc | apply Kd.R_drewN | apply Kd.R_drew)); exact HL740_0.out) hb); have n3_ := Aside0.mk (Kd.C_below (by repeat (first | (with_reducible exact HR740_0.out) | (with_reducible refine Kd.C_alloc ?_ _) | (with_reducible refine Kd.C_drewN ?_ _) | (with_reducible refine Kd.C_drew ?_) | exact HR740_0.out)) hb); have n4_ := Aside0.mk (below_step (by repeat (first | (with_reducible first | exact HB.out | apply below_alloc | apply pw_below_drewN | apply below_drew1) | exact HB.out)) hb); clear HO_17; clear HO_84; clear HL740_0; clear HR740_0; clear HB; have HO_17 := n0_; have HO_84 := n1_; have HL740_0 := n2_; have HR740_0 := n3_; have HB := n4_; clear n0_ n1_ n2_ n3_ n4_; (try clear hb); (try clear hb2); (try clear hk); (try clear hi)))
                          go_roundg k3
                          case measure => have := HJ2.out; have := HK2.out; have := HK3.out; omega
                          case rel => exact ⟨(x17_3), (wrap64 (x86_3 + 1)), (by first | rfl | (simp; done) | (simp [*]; done)), H', ⟨by have := HJ2.out; have := HK2.out; have := HK3.out; omega⟩, ⟨by (with_reducible repeat (first | apply Kd.R_alloc | apply Kd.R_drewN | apply Kd.R_drew)); exact HO_17.out⟩, ⟨by (with_reducible repeat (first | apply Kd.S_alloc | apply Kd.S_drewN | apply Kd.S_drew)); exact HO_84.out⟩, ⟨by repeat (first | (with_reducible first | exact HB.out | apply below_alloc | apply pw_below_drewN | apply below_drew1) | exact HB.out)⟩⟩
                      · rw [if_neg c56] at H
                        exact absurd H (by simp)
                    · rw [if_neg c55] at H
                      exact absurd H (by simp)
                  · rw [if_neg c54] at H
                    have c54b0 : decide (x86_3 < (x6_2.length : Int)) = false := decide_eq_false c54
                    clear c54
                    replace H := Option.bind_eq_some_iff.mp H
                    obtain ⟨t745, A630, H⟩ := H
                    replace H : ((slices_Compact_string.f t745).bind fun t746 => (some (t746, 0))) = some (r1, r2) := H
                    have A63 := Aside0.mk A630
                    clear A630
                    replace H := Option.bind_eq_some_iff.mp H
                    obtain ⟨t746, A640, H⟩ := H
                    replace H : (some (t746, 0)) = some (r1, r2) := H
                    have A64 := Aside0.mk A640
                    clear A640
                    simp only [Option.some.injEq, Prod.mk.injEq] at H
                    obtain ⟨rfl, rfl⟩ := H
                    obtain ⟨Ao65, co65, eo65⟩ := Kd.R_slice HO_17.out
                    subst eo65
                    obtain ⟨e63, hl63⟩ := sort_some A63.out
                    have e64 := compact_some A64.out
                    subst e63
                    subst e64
                    clear A63 A64
                    go_wp2_with (first | (go_at_call 56; go_loud ((with_reducible refine (slices_Sort_string.callsV w.heap.size (fun _ => True) (.slice Ao65 x17_3.length co65) x17_3 _ HO_17.out hl63).mono ?_); rintro e w66 ⟨rfl, hR, hg⟩; have HB6 := Aside0.mk (below_grownT HB.out HO_17.out hg); have HO6 := Aside0.mk hR; clear hR hg)) | (go_at_call 57; go_loud ((with_reducible refine (slices_Compact_string.callsV w.heap.size (fun _ => True) (.slice Ao65 x17_3.length co65) (sortB x17_3) _ HO6.out (by rw [sortB_len]; exact hl63)).mono ?_); rintro e w67 ⟨u67, rfl, hR, hg⟩; have HB7 := Aside0.mk (below_grownT HB6.out HO6.out hg); have HO7 := Aside0.mk hR; clear hR hg)))
                    go_ret2
                    exact ⟨_, rfl, Kd.R_mono HO7.out (fun _ hk => trivial), HB7.out⟩

end Go.Proofs.YtiapaggkbhdnkaaDoor.Q
