-- Joined by joinmods.py out of: Qlib QimplisSpaced QimplValidText QpureText QimpllettersOf QpureStrip
import Derived.Test.YtimkkjkgbbfgbaaGreatDoorQ0
import Derived.Test.YtimkkjkgbbfgbaaGreatDoorGlob
import Derived.Test.YtimkkjkgbbfgbaaGreatDoorQText
import Derived.Lib.IndexMore
import Derived.Lib.TrimByte
import Derived.Test.YtimkkjkgbbfgbaaGreatDoorPure2
import Derived.Lib.Replace
section
/- Functions of Go's library, each by its contract off the shelf, in the printer's form. -/
namespace Go.Proofs.YtimkkjkgbbfgbaaGreatDoor.Q
open Go.RowKit Go.Proofs.YtimkkjkgbbfgbaaGreatDoorW.PrintWords Go.Proofs.YtimkkjkgbbfgbaaGreatDoorW.PrintLast Go.Proofs.YtimkkjkgbbfgbaaGreatDoorW.PrintMore
set_option linter.unusedVariables false

theorem byte_back (c : UInt8) : ((c.toNat : Int)).toNat.toUInt8 = c := by simp
def strings_Contains.f (s sub : ByteArray) : Option Bool := if s.size < 4294967281 then some (Lib.contains s.data.toList sub.data.toList) else none
theorem strings_Contains.calls (a0 a1 : ByteArray) (r : Bool) (w : World) (hG_ : Glob w) (h : strings_Contains.f a0 a1 = some r) :
    Calls Tryz.prog 81 #[.string a0, .string a1] w fun e w' => e = .returned (.bool r) ∧ Below w.heap.size w w' := by
  unfold strings_Contains.f at h
  split at h
  · cases h
    obtain ⟨m, hm⟩ := hG_.maxLen
    refine (Tryz.strings_Contains a0 a1 m w (by assumption) hm).mono ?_
    rintro e w' ⟨rfl, rfl⟩
    exact ⟨rfl, Below.refl _ _⟩
  · cases h
def strings_Trim.f (s cut : ByteArray) : Option ByteArray := if cut = ⟨#[32]⟩ ∧ s.size ≤ 9223372036854775807 then some ⟨(Lib.trimB s.data.toList 32).toArray⟩ else none
theorem strings_Trim.calls (a0 a1 : ByteArray) (r : ByteArray) (w : World) (h : strings_Trim.f a0 a1 = some r) :
    Calls Tryz.prog 55 #[.string a0, .string a1] w fun e w' => e = .returned (.string r) ∧ Below w.heap.size w w' := by
  unfold strings_Trim.f at h
  split at h
  · cases h
    rename_i hc
    obtain ⟨rfl, hs⟩ := hc
    refine (Tryz.strings_Trim_one a0 32 (by decide) w hs).mono ?_
    rintro e w' ⟨rfl, rfl | rfl⟩
    · exact ⟨rfl, Below.refl _ _⟩
    · exact ⟨rfl, below_drew (Below.refl _ _)⟩
  · cases h
def strings_IndexByte.f (s : ByteArray) (c : Int) : Option Int := some (Lib.indexByte s.data.toList c.toNat.toUInt8)
theorem strings_IndexByte.calls (a0 : ByteArray) (a1 : Int) (r : Int) (w : World) (h : strings_IndexByte.f a0 a1 = some r) :
    Calls Tryz.prog 154 #[.string a0, .int .u8 a1] w fun e w' => e = .returned (.int .i64 r) ∧ Below w.heap.size w w' := by
  cases h
  refine (Tryz.strings_IndexByte a0 a1 w).mono ?_
  rintro e w' ⟨rfl, rfl⟩
  exact ⟨rfl, Below.refl _ _⟩
def strings_ReplaceAll.f (s old new : ByteArray) : Option ByteArray := if s.size < 4294967281 ∧ 1 ≤ old.size ∧ s.size + Lib.countB s old * new.size ≤ 140737488355328 then some ⟨(Lib.replaceAll s.data.toList old.data.toList new.data.toList).toArray⟩ else none
theorem strings_ReplaceAll.calls (a0 a1 a2 : ByteArray) (r : ByteArray) (w : World) (hG_ : Glob w) (h : strings_ReplaceAll.f a0 a1 a2 = some r) :
    Calls Tryz.prog 89 #[.string a0, .string a1, .string a2] w fun e w' => e = .returned (.string r) ∧ Below w.heap.size w w' := by
  unfold strings_ReplaceAll.f at h
  split at h
  · cases h
    rename_i hc
    obtain ⟨m, hm⟩ := hG_.maxLen
    refine (Tryz.strings_ReplaceAll a0 a1 a2 m w hc.1 hm hc.2.1 hc.2.2).mono ?_
    rintro e w' ⟨rfl, hb⟩
    exact ⟨rfl, hb⟩
  · cases h
end Go.Proofs.YtimkkjkgbbfgbaaGreatDoor.Q
end
section
-- WRITTEN BY A PROGRAM OF THIS SESSION (xprint.py, which runs the kit's printer with changes). Lean checks it.
namespace Go.Proofs.YtimkkjkgbbfgbaaGreatDoor.Q
open Go.RowKit Go.Proofs.YtimkkjkgbbfgbaaGreatDoorW.PrintWords Go.Proofs.YtimkkjkgbbfgbaaGreatDoorW.PrintLast Go.Proofs.YtimkkjkgbbfgbaaGreatDoorW.PrintMore
set_option linter.unusedVariables false
set_option linter.unusedSimpArgs false
attribute [local go_sem] max2_int min2_int max_two min_two max_three min_three max_four min_four   -- for this text's walks alone
/-! ### impl_isSpaced: function 54 -/
def impl_isSpaced.l0 : Nat → ByteArray → Int → Int → Option (Bool)
  | 0, _, _, _ => none
  | k + 1, x0, x5, x6 => if x6 < x5 then (if 0 ≤ x6 then (if x6 < (x0.size : Int) then ((impl_isLetter.f (bt x0 x6)).bind fun t266 => (if t266 = true then (impl_isSpaced.l0 k x0 x5 (wrap64 (x6 + 1))) else (if (bt x0 x6) = 32 then (impl_isSpaced.l0 k x0 x5 (wrap64 (x6 + 1))) else (some false)))) else (none)) else (none)) else ((strings_Contains.f x0 (⟨#[32, 32]⟩ : ByteArray)).bind fun t267 => (some (!t267)))
def impl_isSpaced.f (k : Nat) (a0 : ByteArray) : Option (Bool) := impl_isSpaced.l0 k a0 (a0.size : Int) 0
theorem impl_isSpaced.mono_l : ∀ k, (∀ y0 y1 y2, LeO (impl_isSpaced.l0 k y0 y1 y2) (impl_isSpaced.l0 (k + 1) y0 y1 y2))
  | 0 => fun _ _ _ r h => by simp [impl_isSpaced.l0] at h
  | k + 1 => by
    have ih0 := impl_isSpaced.mono_l k
    · intro y0 y1 y2
      unfold impl_isSpaced.l0
      repeat' first
      | (with_reducible exact ih0 _ _ _)
      | (with_reducible exact LeO.refl _)
      | (with_reducible exact LeO.none _)
      | (with_reducible refine LeO.ite ?_ ?_)
      | (with_reducible refine LeO.bind ?_ (fun _ => ?_))
      | exact ih0 _ _ _
      | exact LeO.none _
      | refine LeO.ite ?_ ?_
      | refine LeO.bind ?_ (fun _ => ?_)
theorem impl_isSpaced.mono : ∀ a0 k, LeO (impl_isSpaced.f k a0) (impl_isSpaced.f (k + 1) a0) := by
  intro a0 k
  have ih0 := impl_isSpaced.mono_l k
  unfold impl_isSpaced.f
  repeat' first
      | (with_reducible exact ih0 _ _ _)
      | (with_reducible exact LeO.refl _)
      | (with_reducible exact LeO.none _)
      | (with_reducible refine LeO.ite ?_ ?_)
      | (with_reducible refine LeO.bind ?_ (fun _ => ?_))
      | exact ih0 _ _ _
      | exact LeO.none _
      | refine LeO.ite ?_ ?_
      | refine LeO.bind ?_ (fun _ => ?_)
set_option maxHeartbeats 8000000 in
set_option maxRecDepth 100000 in
theorem impl_isSpaced.calls (k : Nat) (a0 : ByteArray) (r : Bool) (w : World) (hG_ : Glob w) (h : impl_isSpaced.f k a0 = some r) :
    Calls Tryz.prog 54 #[.string a0] w fun e w' => e = .returned (.bool r) ∧ Below w.heap.size w w' := by
  have HB := Aside0.mk (Below.refl w.heap.size w)
  have H : (impl_isSpaced.l0 k a0 (a0.size : Int) 0) = some r := h
  clear h
  have H' := Aside0.mk H
  clear H
  go_enter Tryz.func54, Tryz.ntmps54
  go_wp2
  go_loopg [6] k (fun kq v6 w' => ∃ (x6_1 : Int), v6 = .int .i64 x6_1 ∧ Aside0 (impl_isSpaced.l0 kq a0 (a0.size : Int) x6_1 = some r) ∧ Aside0 (kq ≤ k) ∧ Aside0 (Below w.heap.size w w'))
  case atStart => exact ⟨(0), (by first | rfl | (simp; done) | (simp [*]; done)), H', ⟨Nat.le_refl _⟩, ⟨by repeat (first | (with_reducible first | exact HB.out | apply below_alloc | apply pw_below_drewN | apply below_drew1) | exact HB.out)⟩⟩
  case round =>
    clear H'
    obtain ⟨x6_1, rfl, HA, HK1, HB⟩ := hrel
    cases gk with
    | zero => exact absurd HA.out (by simp [impl_isSpaced.l0])
    | succ k1 =>
      have H := HA.out
      clear HA
      simp only [impl_isSpaced.l0] at H
      by_cases c2 : x6_1 < (a0.size : Int)
      · rw [if_pos c2] at H
        have c2b0 : decide (x6_1 < (a0.size : Int)) = true := decide_eq_true c2
        clear c2
        by_cases c3 : 0 ≤ x6_1
        · rw [if_pos c3] at H
          have c3b0 : decide (0 ≤ x6_1) = true := decide_eq_true c3
          clear c3
          by_cases c4 : x6_1 < (a0.size : Int)
          · rw [if_pos c4] at H
            have c4b0 : decide (x6_1 < (a0.size : Int)) = true := decide_eq_true c4
            clear c4
            replace H := Option.bind_eq_some_iff.mp H
            obtain ⟨t266, A60, H⟩ := H
            replace H : (if t266 = true then (impl_isSpaced.l0 k1 a0 (a0.size : Int) (wrap64 (x6_1 + 1))) else (if (bt a0 x6_1) = 32 then (impl_isSpaced.l0 k1 a0 (a0.size : Int) (wrap64 (x6_1 + 1))) else (some false))) = some r := H
            have A6 := Aside0.mk A60
            clear A60
            by_cases c7 : t266 = true
            · subst c7
              have H1 : (impl_isSpaced.l0 k1 a0 (a0.size : Int) (wrap64 (x6_1 + 1))) = some r := by rw [if_pos rfl] at H; exact H
              clear H
              have H := H1
              clear H1
              have H' := Aside0.mk H
              clear H
              have p5 : 0 ≤ (x6_1 : Int) := of_decide_eq_true (by first | (with_reducible assumption) | assumption)
              have q5 : x6_1 < (a0.size : Int) := of_decide_eq_true (by first | (with_reducible assumption) | assumption)
              have hx5 := bt_at a0 x6_1
              replace p5 := eq_true p5
              replace q5 := eq_true q5
              go_wp2_with (first | ((with_reducible refine gate_callee (f := 37) rfl ?_); refine goesL_ (some 12) rfl rfl Tryz.func37 (by kernel_rfl) rfl #[.int .u8 (bt a0 x6_1)] rfl (by (try simp only [List.map_toArray, List.map_cons, List.map_nil]); first | done | rfl | (simp only [List.length_drop, List.length_take]; rfl)) ?_; (with_reducible refine (impl_isLetter.calls (bt a0 x6_1) true _ A6.out).mono ?_); rintro e w' ⟨rfl, ⟨nd, rfl⟩⟩; refine ⟨_, rfl, ?_⟩))
              go_roundg k1
              case measure => have := HK1.out; omega
              case rel => exact ⟨(wrap64 (x6_1 + 1)), (by first | rfl | (simp; done) | (simp [*]; done)), H', ⟨by have := HK1.out; omega⟩, ⟨by repeat (first | (with_reducible first | exact HB.out | apply below_alloc | apply pw_below_drewN | apply below_drew1) | exact HB.out)⟩⟩
            · replace c7 := Bool.eq_false_iff.mpr c7
              subst c7
              have H1 : (if (bt a0 x6_1) = 32 then (impl_isSpaced.l0 k1 a0 (a0.size : Int) (wrap64 (x6_1 + 1))) else (some false)) = some r := by rw [if_neg (show ¬ (false = true) by decide)] at H; exact H
              clear H
              have H := H1
              clear H1
              by_cases c9 : (bt a0 x6_1) = 32
              · rw [if_pos c9] at H
                have c9b0 : ((bt a0 x6_1) == 32) = true := beq_iff_eq.mpr c9
                have c9b1 : ((bt a0 x6_1) != 32) = false := bne_eq_false_iff_eq.mpr c9
                clear c9
                have H' := Aside0.mk H
                clear H
                have p5 : 0 ≤ (x6_1 : Int) := of_decide_eq_true (by first | (with_reducible assumption) | assumption)
                have q5 : x6_1 < (a0.size : Int) := of_decide_eq_true (by first | (with_reducible assumption) | assumption)
                have hx5 := bt_at a0 x6_1
                replace p5 := eq_true p5
                replace q5 := eq_true q5
                go_wp2_with (first | ((with_reducible refine gate_callee (f := 37) rfl ?_); refine goesL_ (some 12) rfl rfl Tryz.func37 (by kernel_rfl) rfl #[.int .u8 (bt a0 x6_1)] rfl (by (try simp only [List.map_toArray, List.map_cons, List.map_nil]); first | done | rfl | (simp only [List.length_drop, List.length_take]; rfl)) ?_; (with_reducible refine (impl_isLetter.calls (bt a0 x6_1) false _ A6.out).mono ?_); rintro e w' ⟨rfl, ⟨nd, rfl⟩⟩; refine ⟨_, rfl, ?_⟩; have p8 : 0 ≤ (x6_1 : Int) := of_decide_eq_true (by first | (with_reducible assumption) | assumption); have q8 : x6_1 < (a0.size : Int) := of_decide_eq_true (by first | (with_reducible assumption) | assumption); have hx8 := bt_at a0 x6_1; replace p8 := eq_true p8; replace q8 := eq_true q8))
                go_roundg k1
                case measure => have := HK1.out; omega
                case rel => exact ⟨(wrap64 (x6_1 + 1)), (by first | rfl | (simp; done) | (simp [*]; done)), H', ⟨by have := HK1.out; omega⟩, ⟨by repeat (first | (with_reducible first | exact HB.out | apply below_alloc | apply pw_below_drewN | apply below_drew1) | exact HB.out)⟩⟩
              · rw [if_neg c9] at H
                have c9b0 : ((bt a0 x6_1) == 32) = false := beq_eq_false_iff_ne.mpr c9
                have c9b1 : ((bt a0 x6_1) != 32) = true := bne_iff_ne.mpr c9
                obtain rfl := Option.some.inj H
                have p5 : 0 ≤ (x6_1 : Int) := of_decide_eq_true (by first | (with_reducible assumption) | assumption)
                have q5 : x6_1 < (a0.size : Int) := of_decide_eq_true (by first | (with_reducible assumption) | assumption)
                have hx5 := bt_at a0 x6_1
                replace p5 := eq_true p5
                replace q5 := eq_true q5
                go_wp2_with (first | ((with_reducible refine gate_callee (f := 37) rfl ?_); refine goesL_ (some 12) rfl rfl Tryz.func37 (by kernel_rfl) rfl #[.int .u8 (bt a0 x6_1)] rfl (by (try simp only [List.map_toArray, List.map_cons, List.map_nil]); first | done | rfl | (simp only [List.length_drop, List.length_take]; rfl)) ?_; (with_reducible refine (impl_isLetter.calls (bt a0 x6_1) false _ A6.out).mono ?_); rintro e w' ⟨rfl, ⟨nd, rfl⟩⟩; refine ⟨_, rfl, ?_⟩; have p8 : 0 ≤ (x6_1 : Int) := of_decide_eq_true (by first | (with_reducible assumption) | assumption); have q8 : x6_1 < (a0.size : Int) := of_decide_eq_true (by first | (with_reducible assumption) | assumption); have hx8 := bt_at a0 x6_1; replace p8 := eq_true p8; replace q8 := eq_true q8))
                go_ret
                exact ⟨by first | rfl | (simp [errW_none, errW_some] <;> rfl) | (simp [*, errW_none, errW_some] <;> rfl), by repeat (first | (with_reducible first | exact HB.out | apply below_alloc | apply pw_below_drewN | apply below_drew1) | exact HB.out)⟩
          · rw [if_neg c4] at H
            exact absurd H (by simp)
        · rw [if_neg c3] at H
          exact absurd H (by simp)
      · rw [if_neg c2] at H
        have c2b0 : decide (x6_1 < (a0.size : Int)) = false := decide_eq_false c2
        clear c2
        replace H := Option.bind_eq_some_iff.mp H
        obtain ⟨t267, A100, H⟩ := H
        replace H : (some (!t267)) = some r := H
        have A10 := Aside0.mk A100
        clear A100
        obtain rfl := Option.some.inj H
        go_wp2_with (first | ((with_reducible refine gate_callee (f := 81) rfl ?_); refine goesL_ (some 22) rfl rfl Tryz.func81 (by kernel_rfl) rfl #[.string a0, .string (⟨#[32, 32]⟩ : ByteArray)] rfl (by (try simp only [List.map_toArray, List.map_cons, List.map_nil]); first | done | rfl | (simp only [List.length_drop, List.length_take]; rfl)) ?_; (with_reducible refine (strings_Contains.calls a0 (⟨#[32, 32]⟩ : ByteArray) t267 _ ?side1 A10.out).mono ?_); (case side1 => refine Glob.step hG_ ?_; repeat (first | (with_reducible first | exact HB.out | apply below_alloc | apply pw_below_drewN | apply below_drew1) | exact HB.out)); rintro e w11 ⟨rfl, hb⟩; refine ⟨_, rfl, ?_⟩; have n0_ := Aside0.mk (below_step (by repeat (first | (with_reducible first | exact HB.out | apply below_alloc | apply pw_below_drewN | apply below_drew1) | exact HB.out)) hb); clear HB; have HB := n0_; clear n0_; (try clear hb); (try clear hb2); (try clear hk); (try clear hi)))
        go_ret
        exact ⟨by first | rfl | (simp [errW_none, errW_some] <;> rfl) | (simp [*, errW_none, errW_some] <;> rfl), by repeat (first | (with_reducible first | exact HB.out | apply below_alloc | apply pw_below_drewN | apply below_drew1) | exact HB.out)⟩

end Go.Proofs.YtimkkjkgbbfgbaaGreatDoor.Q
end
section
-- WRITTEN BY A PROGRAM OF THIS SESSION (xprint.py, which runs the kit's printer with changes). Lean checks it.
namespace Go.Proofs.YtimkkjkgbbfgbaaGreatDoor.Q
open Go.RowKit Go.Proofs.YtimkkjkgbbfgbaaGreatDoorW.PrintWords Go.Proofs.YtimkkjkgbbfgbaaGreatDoorW.PrintLast Go.Proofs.YtimkkjkgbbfgbaaGreatDoorW.PrintMore
set_option linter.unusedVariables false
set_option linter.unusedSimpArgs false
attribute [local go_sem] max2_int min2_int max_two min_two max_three min_three max_four min_four   -- for this text's walks alone
/-! ### impl_ValidText: function 18 -/
def impl_ValidText.f (k : Nat) (a0 : ByteArray) : Option (Bool) := if (a0.size : Int) ≤ 60 then ((impl_isSpaced.f k a0).bind fun t270 => (if t270 = true then ((strings_Trim.f a0 (⟨#[32]⟩ : ByteArray)).bind fun t271 => (some (t271.toList == a0.toList))) else (some false))) else (some false)
theorem impl_ValidText.mono : ∀ a0 k, LeO (impl_ValidText.f k a0) (impl_ValidText.f (k + 1) a0) := by
  intro a0 k
  unfold impl_ValidText.f
  repeat' first
      | (with_reducible exact impl_isSpaced.mono _ _)
      | (with_reducible exact LeO.refl _)
      | (with_reducible exact LeO.none _)
      | (with_reducible refine LeO.ite ?_ ?_)
      | (with_reducible refine LeO.bind ?_ (fun _ => ?_))
      | exact impl_isSpaced.mono _ _
      | exact LeO.none _
      | refine LeO.ite ?_ ?_
      | refine LeO.bind ?_ (fun _ => ?_)
set_option maxHeartbeats 8000000 in
set_option maxRecDepth 100000 in
theorem impl_ValidText.calls (k : Nat) (a0 : ByteArray) (r : Bool) (w : World) (hG_ : Glob w) (h : impl_ValidText.f k a0 = some r) :
    Calls Tryz.prog 18 #[.string a0] w fun e w' => e = .returned (.bool r) ∧ Below w.heap.size w w' := by
  have HB := Aside0.mk (Below.refl w.heap.size w)
  have H : (if (a0.size : Int) ≤ 60 then ((impl_isSpaced.f k a0).bind fun t270 => (if t270 = true then ((strings_Trim.f a0 (⟨#[32]⟩ : ByteArray)).bind fun t271 => (some (t271.toList == a0.toList))) else (some false))) else (some false)) = some r := h
  clear h
  by_cases c2 : (a0.size : Int) ≤ 60
  · rw [if_pos c2] at H
    have c2b0 : decide ((a0.size : Int) ≤ 60) = true := decide_eq_true c2
    have c2b1 : decide (a0.size ≤ 60) = true := decide_eq_true (by omega)
    clear c2
    replace H := Option.bind_eq_some_iff.mp H
    obtain ⟨t270, A30, H⟩ := H
    replace H : (if t270 = true then ((strings_Trim.f a0 (⟨#[32]⟩ : ByteArray)).bind fun t271 => (some (t271.toList == a0.toList))) else (some false)) = some r := H
    have A3 := Aside0.mk A30
    clear A30
    by_cases c4 : t270 = true
    · subst c4
      have H1 : ((strings_Trim.f a0 (⟨#[32]⟩ : ByteArray)).bind fun t271 => (some (t271.toList == a0.toList))) = some r := by rw [if_pos rfl] at H; exact H
      clear H
      have H := H1
      clear H1
      replace H := Option.bind_eq_some_iff.mp H
      obtain ⟨t271, A50, H⟩ := H
      replace H : (some (t271.toList == a0.toList)) = some r := H
      have A5 := Aside0.mk A50
      clear A50
      obtain rfl := Option.some.inj H
      go_enter Tryz.func18, Tryz.ntmps18
      go_wp2_with (first | (go_at_call 54; (with_reducible refine (impl_isSpaced.calls k a0 true _ ?side1 A3.out).mono ?_); (case side1 => refine Glob.step hG_ ?_; repeat (first | (with_reducible first | exact HB.out | apply below_alloc | apply pw_below_drewN | apply below_drew1) | exact HB.out)); rintro e w6 ⟨rfl, hb⟩; have n0_ := Aside0.mk (below_step (by repeat (first | (with_reducible first | exact HB.out | apply below_alloc | apply pw_below_drewN | apply below_drew1) | exact HB.out)) hb); clear HB; have HB := n0_; clear n0_; (try clear hb); (try clear hb2); (try clear hk); (try clear hi)) | (go_at_call 55; (with_reducible refine (strings_Trim.calls a0 (⟨#[32]⟩ : ByteArray) t271 _ A5.out).mono ?_); rintro e w7 ⟨rfl, hb⟩; have n0_ := Aside0.mk (below_step (by repeat (first | (with_reducible first | exact HB.out | apply below_alloc | apply pw_below_drewN | apply below_drew1) | exact HB.out)) hb); clear HB; have HB := n0_; clear n0_; (try clear hb); (try clear hb2); (try clear hk); (try clear hi)))
      go_ret
      exact ⟨by first | rfl | (simp [errW_none, errW_some] <;> rfl) | (simp [*, errW_none, errW_some] <;> rfl), by repeat (first | (with_reducible first | exact HB.out | apply below_alloc | apply pw_below_drewN | apply below_drew1) | exact HB.out)⟩
    · replace c4 := Bool.eq_false_iff.mpr c4
      subst c4
      have H1 : (some false) = some r := by rw [if_neg (show ¬ (false = true) by decide)] at H; exact H
      clear H
      have H := H1
      clear H1
      obtain rfl := Option.some.inj H
      go_enter Tryz.func18, Tryz.ntmps18
      go_wp2_with (first | (go_at_call 54; (with_reducible refine (impl_isSpaced.calls k a0 false _ ?side1 A3.out).mono ?_); (case side1 => refine Glob.step hG_ ?_; repeat (first | (with_reducible first | exact HB.out | apply below_alloc | apply pw_below_drewN | apply below_drew1) | exact HB.out)); rintro e w8 ⟨rfl, hb⟩; have n0_ := Aside0.mk (below_step (by repeat (first | (with_reducible first | exact HB.out | apply below_alloc | apply pw_below_drewN | apply below_drew1) | exact HB.out)) hb); clear HB; have HB := n0_; clear n0_; (try clear hb); (try clear hb2); (try clear hk); (try clear hi)))
      go_ret
      exact ⟨by first | rfl | (simp [errW_none, errW_some] <;> rfl) | (simp [*, errW_none, errW_some] <;> rfl), by repeat (first | (with_reducible first | exact HB.out | apply below_alloc | apply pw_below_drewN | apply below_drew1) | exact HB.out)⟩
  · rw [if_neg c2] at H
    have c2b0 : decide ((a0.size : Int) ≤ 60) = false := decide_eq_false c2
    have c2b1 : decide (a0.size ≤ 60) = false := decide_eq_false (by omega)
    clear c2
    obtain rfl := Option.some.inj H
    go_enter Tryz.func18, Tryz.ntmps18
    go_wp2
    go_ret
    exact ⟨by first | rfl | (simp [errW_none, errW_some] <;> rfl) | (simp [*, errW_none, errW_some] <;> rfl), by repeat (first | (with_reducible first | exact HB.out | apply below_alloc | apply pw_below_drewN | apply below_drew1) | exact HB.out)⟩

end Go.Proofs.YtimkkjkgbbfgbaaGreatDoor.Q
end
section
/- What the looks at a text, a word and the like answer: program and reference alike. -/
namespace Go.Proofs.YtimkkjkgbbfgbaaGreatDoor.Q
open Go.RowKit Go.Proofs.YtimkkjkgbbfgbaaGreatDoorW.PrintWords Go.Proofs.YtimkkjkgbbfgbaaGreatDoorW.PrintLast Go.Proofs.YtimkkjkgbbfgbaaGreatDoorW.PrintMore
open Go.Proofs.YtimkkjkgbbfgbaaGreatDoor.Pure
set_option linter.unusedVariables false

theorem dropWhile_self {α : Type} (p : α → Bool) (m : List α) : m.dropWhile p = m ↔ ∀ x, m.head? = some x → p x = false := by
  cases m with
  | nil => simp
  | cons a t =>
    simp only [List.dropWhile_cons, List.head?_cons, Option.some.injEq, forall_eq']
    cases h : p a
    · simp
    · simp only [if_true]
      refine ⟨fun he => ?_, fun h => by cases h⟩
      have := (List.dropWhile_suffix (l := t) p).length_le
      rw [he, List.length_cons] at this
      omega
theorem trim_self (l : List UInt8) (c : UInt8) : Lib.trimB l c = l ↔ l.head? ≠ some c ∧ l.getLast? ≠ some c := by
  unfold Lib.trimB
  have hr : Lib.trimRightB l c = l ↔ l.getLast? ≠ some c := by
    unfold Lib.trimRightB
    rw [show ((l.reverse.dropWhile fun x => x == c).reverse = l) ↔ (l.reverse.dropWhile fun x => x == c) = l.reverse from ⟨fun h => by have := congrArg List.reverse h; rwa [List.reverse_reverse] at this, fun h => by rw [h, List.reverse_reverse]⟩, dropWhile_self, List.head?_reverse]
    refine ⟨fun h he => ?_, fun h x hx => ?_⟩
    · have := h c he
      simp at this
    · rw [beq_eq_false_iff_ne]
      rintro rfl
      exact h hx
  have hl : ∀ m : List UInt8, Lib.trimLeftB m c = m ↔ m.head? ≠ some c := by
    intro m
    unfold Lib.trimLeftB
    rw [dropWhile_self]
    refine ⟨fun h he => ?_, fun h x hx => ?_⟩
    · have := h c he
      simp at this
    · rw [beq_eq_false_iff_ne]
      rintro rfl
      exact h hx
  refine ⟨fun h => ?_, fun ⟨h1, h2⟩ => ?_⟩
  · have l1 : (Lib.trimLeftB (Lib.trimRightB l c) c).length ≤ (Lib.trimRightB l c).length := (List.dropWhile_suffix _).length_le
    have l2 : (Lib.trimRightB l c).length ≤ l.length := by
      unfold Lib.trimRightB
      rw [List.length_reverse]
      have := (List.dropWhile_suffix (l := l.reverse) (fun x => x == c)).length_le
      rwa [List.length_reverse] at this
    rw [h] at l1
    have h3 : Lib.trimRightB l c = l := by
      unfold Lib.trimRightB at l1 l2 ⊢
      have hs := List.dropWhile_suffix (l := l.reverse) (fun x => x == c)
      have := hs.eq_of_length (by rw [List.length_reverse] at l1 l2 ⊢; omega)
      rw [this, List.reverse_reverse]
    rw [h3] at h
    exact ⟨(hl l).1 h, hr.1 h3⟩
  · rw [hr.2 h2]
    exact (hl l).2 h1
theorem contains_two (l : List UInt8) (c : UInt8) : Lib.contains l [c, c] = true ↔ ∃ i, l[i]? = some c ∧ l[i + 1]? = some c := by
  have occ : ∀ i, Lib.occAt l [c, c] i = true ↔ l[i]? = some c ∧ l[i + 1]? = some c := by
    intro i
    unfold Lib.occAt
    have e0 : (l.drop i)[0]? = l[i]? := by rw [List.getElem?_drop]; rfl
    have e1 : (l.drop i)[1]? = l[i + 1]? := by rw [List.getElem?_drop]
    rw [← e0, ← e1]
    rcases l.drop i with _ | ⟨x, _ | ⟨y, t⟩⟩
    · simp [List.isPrefixOf]
    · simp [List.isPrefixOf]
    · simp only [List.isPrefixOf, Bool.and_true, Bool.and_eq_true, beq_iff_eq, List.getElem?_cons_zero, List.getElem?_cons_succ, Option.some.injEq]
      constructor <;> rintro ⟨rfl, rfl⟩ <;> exact ⟨rfl, rfl⟩
  unfold Lib.contains
  rw [decide_eq_true_eq]
  rcases Lib.index_spec l [c, c] with ⟨h, hn⟩ | ⟨i, h, hi, ho, _⟩
  · rw [h]
    refine ⟨fun h => absurd h (by decide), fun ⟨i, h1, h2⟩ => ?_⟩
    have := hn i (by have := (List.getElem?_eq_some_iff.1 h1).1; omega)
    rw [(occ i).2 ⟨h1, h2⟩] at this
    cases this
  · rw [h]
    exact ⟨fun _ => ⟨i, (occ i).1 ho⟩, fun _ => by omega⟩

def okAt (a : ByteArray) (i : Nat) : Bool := if bt a i = 32 then !(i == 0) && !(i + 1 == a.size) && !(bt a (i - 1 : Nat) == 32) else isL (bt a i)
/-- A valid text. -/
def textB (a : ByteArray) : Bool := (List.range a.size).all (okAt a) && decide ((a.size : Int) ≤ 60)

theorem bt_list (a : ByteArray) (i : Nat) (h : i < a.size) (c : UInt8) : a.data.toList[i]? = some c ↔ bt a i = c.toNat := by
  have hb : a.data.toList[i]? = some (a[i]'h) := by
    rw [Array.getElem?_toList, Array.getElem?_eq_getElem (show i < a.data.size from h)]; rfl
  rw [hb]
  have hb2 : bt a i = ((a[i]'h).toNat : Int) := by
    unfold bt
    rw [dif_pos (show ((i : Int)).toNat < a.size from h)]
    rfl
  rw [hb2]
  simp only [Option.some.injEq]
  refine ⟨fun e => by rw [e], fun e => ?_⟩
  have : (a[i]'h).toNat = c.toNat := by omega
  exact UInt8.toNat_inj.1 this
theorem list_len (a : ByteArray) : a.data.toList.length = a.size := by rw [Array.length_toList]; rfl
theorem bt_list_none (a : ByteArray) (i : Nat) (h : ¬ i < a.size) (c : UInt8) : ¬ a.data.toList[i]? = some c := by
  rw [List.getElem?_eq_none (by rw [list_len]; omega)]
  simp

theorem spec_l01Text.val (a : ByteArray) (ha : a.size ≤ 9223372036854775807) : spec_l01Text.f (a.size + 1) a = some (textB a) := by
  unfold spec_l01Text.f textB
  refine scan_all (l := fun k i => spec_l01Text.l0 k a i) (fun k i hi => ?_) (fun k => ?_) _ (by omega)
  · simp only [spec_l01Text.l0, spec_l01Letter.val, Option.bind_some]
    rw [if_pos (by omega), if_pos (by omega), wrap_succ hi ha, wrap_id (n := (a.size : Int) - 1) (by omega) (by omega), wrap_id (n := (i : Int) - 1) (by omega) (by omega)]
    unfold okAt
    by_cases h1 : bt a i = 32
    · rw [if_pos h1, if_pos h1]
      by_cases h2 : (i : Int) = 0
      · rw [if_pos h2]
        simp [show i = 0 by omega]
      · rw [if_neg h2]
        by_cases h3 : (i : Int) = (a.size : Int) - 1
        · rw [if_pos h3]
          simp [show i + 1 = a.size by omega]
        · rw [if_neg h3, if_pos (by omega), if_pos (by omega), show (i : Int) - 1 = ((i - 1 : Nat) : Int) by omega]
          by_cases h4 : bt a ((i - 1 : Nat) : Int) = 32
          · rw [if_pos h4]
            simp [h4]
          · rw [if_neg h4]
            simp [h4, show ¬ i = 0 by omega, show ¬ i + 1 = a.size by omega]
    · rw [if_neg h1, if_neg h1]
  · simp [spec_l01Text.l0]

theorem all_ok (a : ByteArray) : (List.range a.size).all (okAt a) = true ↔
    ((List.range a.size).all (fun i => isL (bt a i) || bt a i == 32) = true ∧ ¬ Lib.contains a.data.toList [32, 32] = true ∧ Lib.trimB a.data.toList 32 = a.data.toList) := by
  have h32 : isL 32 = false := by decide
  have c32 : ((32 : UInt8).toNat : Int) = 32 := by decide
  rw [contains_two, trim_self]
  simp only [List.all_eq_true, List.mem_range, okAt]
  refine ⟨fun h => ⟨fun i hi => ?_, ?_, ?_, ?_⟩, fun ⟨h1, h2, h3, h4⟩ i hi => ?_⟩
  · have := h i hi
    by_cases hb : bt a i = 32
    · simp [hb]
    · rw [if_neg hb] at this
      simp [this]
  · rintro ⟨i, h1, h2⟩
    have hi : i + 1 < a.size := by have := (List.getElem?_eq_some_iff.1 h2).1; rw [list_len] at this; exact this
    have b1 := (bt_list a i (by omega) 32).1 h1
    have b2 := (bt_list a (i + 1) hi 32).1 h2
    rw [c32] at b1 b2
    have := h (i + 1) hi
    rw [if_pos b2] at this
    simp [b1] at this
  · rw [List.head?_eq_getElem?]
    by_cases hz : 0 < a.size
    · intro h1
      have b1 := (bt_list a 0 hz 32).1 h1
      rw [c32] at b1
      have := h 0 hz
      rw [if_pos b1] at this
      simp at this
    · exact bt_list_none a 0 hz 32
  · rw [List.getLast?_eq_getElem?, list_len]
    by_cases hz : 0 < a.size
    · intro h1
      have b1 := (bt_list a (a.size - 1) (by omega) 32).1 h1
      rw [c32] at b1
      have := h (a.size - 1) (by omega)
      rw [if_pos b1] at this
      simp [show a.size - 1 + 1 = a.size by omega] at this
    · intro h1
      exact bt_list_none a (a.size - 1) (by omega) 32 h1
  · by_cases hb : bt a i = 32
    · rw [if_pos hb]
      have b1 := (bt_list a i hi 32).2 (by rw [c32]; exact hb)
      have n0 : i ≠ 0 := by
        rintro rfl
        exact h3 (by rw [List.head?_eq_getElem?]; exact b1)
      have n1 : i + 1 ≠ a.size := by
        intro e
        exact h4 (by rw [List.getLast?_eq_getElem?, list_len, show a.size - 1 = i by omega]; exact b1)
      have n2 : bt a ((i - 1 : Nat) : Int) ≠ 32 := by
        intro e
        have b0 := (bt_list a (i - 1) (by omega) 32).2 (by rw [c32]; exact e)
        exact h2 ⟨i - 1, b0, by rw [show i - 1 + 1 = i by omega]; exact b1⟩
      simp [n0, n1, n2]
    · rw [if_neg hb]
      have := h1 i hi
      simpa [hb] using this

theorem impl_isSpaced.val (a : ByteArray) (ha : a.size < 4294967281) : impl_isSpaced.f (a.size + 1) a = some ((List.range a.size).all (fun i => isL (bt a i) || bt a i == 32) && !Lib.contains a.data.toList [32, 32]) := by
  unfold impl_isSpaced.f
  refine scan_all (l := fun k i => impl_isSpaced.l0 k a (a.size : Int) i) (fun k i hi => ?_) (fun k => ?_) _ (by omega)
  · simp only [impl_isSpaced.l0, impl_isLetter.val, Option.bind_some]
    rw [if_pos (by omega), if_pos (by omega), if_pos (by omega), wrap_succ hi (by omega)]
    by_cases h1 : bt a i = 32 <;> cases h2 : isL (bt a i) <;> simp [h1]
  · simp only [impl_isSpaced.l0]
    rw [if_neg (by omega)]
    unfold strings_Contains.f
    rw [if_pos ha]
    rfl
theorem impl_ValidText.val (a : ByteArray) (ha : a.size ≤ 9223372036854775807) : impl_ValidText.f (a.size + 1) a = some (textB a) := by
  unfold impl_ValidText.f textB
  by_cases h60 : (a.size : Int) ≤ 60
  · rw [if_pos h60, impl_isSpaced.val a (by omega)]
    unfold strings_Trim.f
    rw [if_pos ⟨rfl, ha⟩]
    simp only [Option.bind_some]
    have hk := all_ok a
    by_cases ht : (List.range a.size).all (okAt a) = true
    · obtain ⟨h1, h2, h3⟩ := hk.1 ht
      rw [ht, h1, Bool.eq_false_iff.2 h2]
      simp [h60, ByteArray.toList_eq, h3]
    · have ht' := Bool.eq_false_iff.2 ht
      rw [ht']
      by_cases h1 : (List.range a.size).all (fun i => isL (bt a i) || bt a i == 32) = true
      · by_cases h2 : Lib.contains a.data.toList [32, 32] = true
        · simp [h1, h2]
        · have h3 : ¬ Lib.trimB a.data.toList 32 = a.data.toList := fun h3 => ht (hk.2 ⟨h1, h2, h3⟩)
          rw [h1, Bool.eq_false_iff.2 h2]
          simp [ByteArray.toList_eq, h3]
      · rw [Bool.eq_false_iff.2 h1]
        simp
  · rw [if_neg h60]
    simp [h60]
end Go.Proofs.YtimkkjkgbbfgbaaGreatDoor.Q
end
section
-- WRITTEN BY A PROGRAM OF THIS SESSION (xprint.py, which runs the kit's printer with changes). Lean checks it.
namespace Go.Proofs.YtimkkjkgbbfgbaaGreatDoor.Q
open Go.RowKit Go.Proofs.YtimkkjkgbbfgbaaGreatDoorW.PrintWords Go.Proofs.YtimkkjkgbbfgbaaGreatDoorW.PrintLast Go.Proofs.YtimkkjkgbbfgbaaGreatDoorW.PrintMore
set_option linter.unusedVariables false
set_option linter.unusedSimpArgs false
attribute [local go_sem] max2_int min2_int max_two min_two max_three min_three max_four min_four   -- for this text's walks alone
/-! ### impl_lettersOf: function 60 -/
def impl_lettersOf.f (a0 : ByteArray) : Option (ByteArray) := (strings_ReplaceAll.f a0 (⟨#[32]⟩ : ByteArray) (⟨#[]⟩ : ByteArray)).bind fun t322 => (some t322)
set_option maxHeartbeats 8000000 in
set_option maxRecDepth 100000 in
theorem impl_lettersOf.calls (a0 : ByteArray) (r : ByteArray) (w : World) (hG_ : Glob w) (h : impl_lettersOf.f a0 = some r) :
    Calls Tryz.prog 60 #[.string a0] w fun e w' => e = .returned (.string r) ∧ Below w.heap.size w w' := by
  have HB := Aside0.mk (Below.refl w.heap.size w)
  have H : ((strings_ReplaceAll.f a0 (⟨#[32]⟩ : ByteArray) (⟨#[]⟩ : ByteArray)).bind fun t322 => (some t322)) = some r := h
  clear h
  replace H := Option.bind_eq_some_iff.mp H
  obtain ⟨t322, A20, H⟩ := H
  replace H : (some t322) = some r := H
  have A2 := Aside0.mk A20
  clear A20
  obtain rfl := Option.some.inj H
  go_enter Tryz.func60, Tryz.ntmps60
  go_wp2_with (first | ((with_reducible refine gate_callee (f := 89) rfl ?_); refine goesL_ (some 4) rfl rfl Tryz.func89 (by kernel_rfl) rfl #[.string a0, .string (⟨#[32]⟩ : ByteArray), .string (⟨#[]⟩ : ByteArray)] rfl (by (try simp only [List.map_toArray, List.map_cons, List.map_nil]); first | done | rfl | (simp only [List.length_drop, List.length_take]; rfl)) ?_; (with_reducible refine (strings_ReplaceAll.calls a0 (⟨#[32]⟩ : ByteArray) (⟨#[]⟩ : ByteArray) t322 _ ?side1 A2.out).mono ?_); (case side1 => refine Glob.step hG_ ?_; repeat (first | (with_reducible first | exact HB.out | apply below_alloc | apply pw_below_drewN | apply below_drew1) | exact HB.out)); rintro e w3 ⟨rfl, hb⟩; refine ⟨_, rfl, ?_⟩; have n0_ := Aside0.mk (below_step (by repeat (first | (with_reducible first | exact HB.out | apply below_alloc | apply pw_below_drewN | apply below_drew1) | exact HB.out)) hb); clear HB; have HB := n0_; clear n0_; (try clear hb); (try clear hb2); (try clear hk); (try clear hi)))
  go_ret
  exact ⟨by first | rfl | (simp [errW_none, errW_some] <;> rfl) | (simp [*, errW_none, errW_some] <;> rfl), by repeat (first | (with_reducible first | exact HB.out | apply below_alloc | apply pw_below_drewN | apply below_drew1) | exact HB.out)⟩

end Go.Proofs.YtimkkjkgbbfgbaaGreatDoor.Q
end
section
/- A text without its blanks: strings.ReplaceAll(text, " ", ""). -/
namespace Go.Proofs.YtimkkjkgbbfgbaaGreatDoor.Q
open Go.RowKit Go.Proofs.YtimkkjkgbbfgbaaGreatDoorW.PrintWords Go.Proofs.YtimkkjkgbbfgbaaGreatDoorW.PrintLast Go.Proofs.YtimkkjkgbbfgbaaGreatDoorW.PrintMore
open Go.Proofs.YtimkkjkgbbfgbaaGreatDoor.Pure
set_option linter.unusedVariables false

theorem occ_one (l : List UInt8) (c : UInt8) (i : Nat) : Lib.occAt l [c] i = true ↔ l[i]? = some c := by
  unfold Lib.occAt
  have e0 : (l.drop i)[0]? = l[i]? := by rw [List.getElem?_drop]; rfl
  rw [← e0]
  rcases l.drop i with _ | ⟨x, t⟩
  · simp [List.isPrefixOf]
  · simp only [List.isPrefixOf, Bool.and_true, beq_iff_eq, List.getElem?_cons_zero, Option.some.injEq]
    exact ⟨fun h => h.symm, fun h => h.symm⟩
theorem filter_none (l : List UInt8) (c : UInt8) (h : ∀ i : Nat, l[i]? ≠ some c) : l.filter (fun x => x != c) = l := by
  rw [List.filter_eq_self]
  intro x hx
  obtain ⟨i, hi⟩ := List.getElem?_of_mem hx
  have := h i
  rw [hi] at this
  simpa using this
theorem replace_one (c : UInt8) : ∀ (fuel : Nat) (s : List UInt8), s.length < fuel → Lib.replaceK [c] [] (Lib.countFrom [c] fuel s) s = s.filter (fun x => x != c) := by
  intro fuel
  induction fuel with
  | zero => intro s h; omega
  | succ fuel ih =>
    intro s h
    rcases Lib.index_spec s [c] with ⟨hi, hn⟩ | ⟨i, hi, hle, ho, hno⟩
    · rw [Lib.countFrom, if_pos (by rw [hi]; rfl), Lib.replaceK, filter_none]
      intro i e
      have hlt : i < s.length := (List.getElem?_eq_some_iff.1 e).1
      have := hn i (by omega)
      rw [(occ_one s c i).2 e] at this
      cases this
    · have hne : ¬ (Lib.index s [c] == -1) = true := by rw [hi]; intro e; have := beq_iff_eq.1 e; omega
      have hc := (occ_one s c i).1 ho
      have hlt : i < s.length := (List.getElem?_eq_some_iff.1 hc).1
      have ht : (Lib.index s [c]).toNat = i := by rw [hi]; rfl
      rw [Lib.countFrom, if_neg hne, ht, Nat.add_comm, Lib.replaceK_hit [c] [] _ s i hi]
      have hd : (s.drop (i + 1)).length < fuel := by rw [List.length_drop]; omega
      show s.take i ++ [] ++ Lib.replaceK [c] [] (Lib.countFrom [c] fuel (s.drop (i + 1))) (s.drop (i + 1)) = _
      rw [ih _ hd]
      have hs : s = s.take i ++ c :: s.drop (i + 1) := by
        have e1 : s.drop i = s[i] :: s.drop (i + 1) := List.drop_eq_getElem_cons hlt
        have e2 : s[i] = c := by have := (List.getElem?_eq_some_iff.1 hc).2; exact this
        rw [← e2, ← e1, List.take_append_drop]
      have hf : (s.take i).filter (fun x => x != c) = s.take i := filter_none _ _ fun j e => by
        have hj : j < i := by have := (List.getElem?_eq_some_iff.1 e).1; rw [List.length_take] at this; omega
        rw [List.getElem?_take_of_lt hj] at e
        have := hno j hj
        rw [(occ_one s c j).2 e] at this
        cases this
      conv => rhs; rw [hs]
      rw [List.filter_append, hf, List.filter_cons_of_neg (by simp), List.append_nil]
theorem replaceAll_one (s : List UInt8) (c : UInt8) : Lib.replaceAll s [c] [] = s.filter (fun x => x != c) := by
  unfold Lib.replaceAll Lib.replace Lib.replaceNum Lib.count
  rw [if_neg (by simp), if_pos (Or.inl (by decide))]
  exact replace_one c _ s (by omega)
/-- A text without its blanks. -/
def strip (a : ByteArray) : ByteArray := ⟨(a.data.toList.filter fun x => x != 32).toArray⟩
theorem strip_size (a : ByteArray) : (strip a).size ≤ a.size := by
  have h := List.length_filter_le (fun x : UInt8 => x != 32) a.data.toList
  rw [data_length] at h
  exact h
theorem impl_lettersOf.val (a : ByteArray) (ha : a.size < 4294967281) : impl_lettersOf.f a = some (strip a) := by
  unfold impl_lettersOf.f strings_ReplaceAll.f
  rw [if_pos ⟨ha, by decide, by show a.size + _ * 0 ≤ _; omega⟩]
  show (some _).bind _ = _
  rw [show Lib.replaceAll a.data.toList [32] [] = a.data.toList.filter (fun x => x != 32) from replaceAll_one _ _] 
  rfl
theorem bytesOf_strip (a : ByteArray) : bytesOf (strip a) = (bytesOf a).filter (fun x => x != 32) := by
  unfold bytesOf strip
  simp only [List.filter_map]
  congr 1
  refine List.filter_congr fun x _ => ?_
  rw [Bool.eq_iff_iff]
  simp only [bne_iff_ne, ne_eq, Function.comp]
  refine not_congr ⟨fun h => by rw [h]; rfl, fun h => ?_⟩
  have : x.toNat = (32 : UInt8).toNat := by show x.toNat = 32; omega
  exact UInt8.toNat_inj.1 this
theorem bytesOf_at (a : ByteArray) (i : Nat) (h : i < a.size) : (bytesOf a)[i]'(by rw [bytesOf_length]; exact h) = bt a i := by
  have := bt_at a (i : Int) (by simpa using h)
  simp only [Int.toNat_natCast] at this
  rw [← this]
  simp [bytesOf]
  rfl
theorem text_bytes {a : ByteArray} (h : textB a = true) (x : Int) (hx : x ∈ bytesOf a) : x = 32 ∨ isL x = true := by
  obtain ⟨i, hi, rfl⟩ := List.getElem_of_mem hx
  have hi' : i < a.size := by rw [bytesOf_length] at hi; exact hi
  rw [bytesOf_at a i hi']
  unfold textB at h
  simp only [Bool.and_eq_true, List.all_eq_true, List.mem_range] at h
  have := h.1 i hi'
  unfold okAt at this
  by_cases hb : bt a i = 32
  · exact Or.inl hb
  · rw [if_neg hb] at this
    exact Or.inr this
theorem strip_letter {a : ByteArray} (h : textB a = true) (k : Nat) (hk : k < (strip a).size) : isL (bt (strip a) k) = true := by
  have hm : bt (strip a) k ∈ bytesOf (strip a) := by rw [← bytesOf_at _ _ hk]; exact List.getElem_mem _
  rw [bytesOf_strip] at hm
  obtain ⟨h1, h2⟩ := List.mem_filter.1 hm
  rcases text_bytes h _ h1 with e | e
  · rw [e] at h2
    exact absurd h2 (by decide)
  · exact e
theorem text_small {a : ByteArray} (h : textB a = true) : a.size ≤ 60 := by
  unfold textB at h
  simp only [Bool.and_eq_true, decide_eq_true_iff] at h
  omega
end Go.Proofs.YtimkkjkgbbfgbaaGreatDoor.Q
end
