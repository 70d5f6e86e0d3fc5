-- Joined by joinmods.py out of: QlibDec Qimpldecimal Qimpljoinedint8 QhandFT0 QhandFImpl
import Derived.Test.YtimkkjkgbbfgbaaGreatDoorQ0
import Derived.Test.YtimkkjkgbbfgbaaGreatDoorGlobP
import Derived.Lib.AppendIntMem
import Derived.Test.YtimkkjkgbbfgbaaGreatDoorQJoin
import Derived.Test.YtimkkjkgbbfgbaaGreatDoorQVf
import Derived.Outline
import Derived.Lib.Hide
import Derived.BigRegion
import Derived.Deep.RegionHeld3
import Derived.Laws.BytesArg
section
/- strconv.FormatInt at base ten, in the printed form, out of the shelf. -/
namespace Go.Proofs.YtimkkjkgbbfgbaaGreatDoor.Q
open Go.RowKit Go.Proofs.YtimkkjkgbbfgbaaGreatDoorW.PrintWords Go.Proofs.YtimkkjkgbbfgbaaGreatDoorW.PrintLast Go.Proofs.YtimkkjkgbbfgbaaGreatDoorW.PrintMore
set_option linter.unusedVariables false

def strconv_FormatInt_70.f (n b : Int) : Option ByteArray := if b = 10 ∧ -9223372036854775808 ≤ n ∧ n ≤ 9223372036854775807 then some ⟨(Lib.itoa n).toArray⟩ else none
theorem strconv_FormatInt_70.calls (a0 a1 : Int) (r : ByteArray) (w : World) (hG_ : GlobP w) (h : strconv_FormatInt_70.f a0 a1 = some r) :
    Calls Tryz.prog 70 #[.int .i64 a0, .int .i64 a1] w fun e w' => e = .returned (.string r) ∧ Below w.heap.size w w' := by
  unfold strconv_FormatInt_70.f at h
  split at h
  · rename_i hc
    obtain ⟨rfl, h0, h1⟩ := hc
    cases h
    refine (Tryz.strconv_FormatInt_10 a0 h0 h1 w hG_.pow).mono ?_
    rintro e w' ⟨rfl, k, os, rfl⟩
    exact ⟨rfl, Lib.below_grow _ _ (Nat.le_refl _) k os⟩
  · cases h
end Go.Proofs.YtimkkjkgbbfgbaaGreatDoor.Q
end
section
-- WRITTEN BY A PROGRAM OF THIS SESSION (xprint.py, which runs the kit's printer with changes). Lean checks it.
namespace Go.Proofs.YtimkkjkgbbfgbaaGreatDoor.Q
open Go.RowKit Go.Proofs.YtimkkjkgbbfgbaaGreatDoorW.PrintWords Go.Proofs.YtimkkjkgbbfgbaaGreatDoorW.PrintLast Go.Proofs.YtimkkjkgbbfgbaaGreatDoorW.PrintMore
set_option linter.unusedVariables false
set_option linter.unusedSimpArgs false
attribute [local go_sem] max2_int min2_int max_two min_two max_three min_three max_four min_four   -- for this text's walks alone
/-! ### impl_decimal: function 34 -/
def impl_decimal.f (a0 : Int) : Option (ByteArray) := (strconv_FormatInt_70.f a0 10).bind fun t201 => (some t201)
set_option maxHeartbeats 8000000 in
set_option maxRecDepth 100000 in
theorem impl_decimal.calls (a0 : Int) (r : ByteArray) (w : World) (hG_ : GlobP w) (h : impl_decimal.f a0 = some r) :
    Calls Tryz.prog 34 #[.int .i64 a0] w fun e w' => e = .returned (.string r) ∧ Below w.heap.size w w' := by
  have HB := Aside0.mk (Below.refl w.heap.size w)
  have H : ((strconv_FormatInt_70.f a0 10).bind fun t201 => (some t201)) = some r := h
  clear h
  replace H := Option.bind_eq_some_iff.mp H
  obtain ⟨t201, A20, H⟩ := H
  replace H : (some t201) = some r := H
  have A2 := Aside0.mk A20
  clear A20
  obtain rfl := Option.some.inj H
  go_enter Tryz.func34, Tryz.ntmps34
  go_wp2_with (first | ((with_reducible refine gate_callee (f := 70) rfl ?_); refine goesL_ (some 4) rfl rfl Tryz.func70 (by kernel_rfl) rfl #[.int .i64 a0, .int .i64 10] rfl (by (try simp only [List.map_toArray, List.map_cons, List.map_nil]); first | done | rfl | (simp only [List.length_drop, List.length_take]; rfl)) ?_; (with_reducible refine (strconv_FormatInt_70.calls a0 10 t201 _ ?side1 A2.out).mono ?_); (case side1 => refine GlobP.step hG_ ?_; repeat (first | (with_reducible first | exact HB.out | apply below_alloc | apply pw_below_drewN | apply below_drew1) | exact HB.out)); rintro e w3 ⟨rfl, hb⟩; refine ⟨_, rfl, ?_⟩; have n0_ := Aside0.mk (below_step (by repeat (first | (with_reducible first | exact HB.out | apply below_alloc | apply pw_below_drewN | apply below_drew1) | exact HB.out)) hb); clear HB; have HB := n0_; clear n0_; (try clear hb); (try clear hb2); (try clear hk); (try clear hi)))
  go_ret
  exact ⟨by first | rfl | (simp [errW_none, errW_some] <;> rfl) | (simp [*, errW_none, errW_some] <;> rfl), by repeat (first | (with_reducible first | exact HB.out | apply below_alloc | apply pw_below_drewN | apply below_drew1) | exact HB.out)⟩

end Go.Proofs.YtimkkjkgbbfgbaaGreatDoor.Q
end
section
-- WRITTEN BY A PROGRAM OF THIS SESSION (xprint.py, which runs the kit's printer with changes). Lean checks it.
namespace Go.Proofs.YtimkkjkgbbfgbaaGreatDoor.Q
open Go.RowKit Go.Proofs.YtimkkjkgbbfgbaaGreatDoorW.PrintWords Go.Proofs.YtimkkjkgbbfgbaaGreatDoorW.PrintLast Go.Proofs.YtimkkjkgbbfgbaaGreatDoorW.PrintMore
set_option linter.unusedVariables false
set_option linter.unusedSimpArgs false
attribute [local go_sem] max2_int min2_int max_two min_two max_three min_three max_four min_four   -- for this text's walks alone
/-! ### impl_joined_int8: function 35 -/
def impl_joined_int8.l0 : Nat → List ByteArray → List Int → Int → Int → Option (ByteArray)
  | 0, _, _, _, _ => none
  | k + 1, x3, x7, x8, x9 => if x9 < x8 then (if 0 ≤ x9 then (if x9 < (x7.length : Int) then ((impl_decimal.f (wrap64 (rd x7 x9))).bind fun t206 => (if x3.length < 8796093022208 then (impl_joined_int8.l0 k (x3 ++ [t206]) x7 x8 (wrap64 (x9 + 1))) else (none))) else (none)) else (none)) else ((strings_Join.f x3 (⟨#[32]⟩ : ByteArray)).bind fun t210 => (some t210))
def impl_joined_int8.f (k : Nat) (l0 : List Int) : Option (ByteArray) := impl_joined_int8.l0 k (([] : List ByteArray)) l0 (l0.length : Int) 0
theorem impl_joined_int8.mono_l : ∀ k, (∀ y0 y1 y2 y3, LeO (impl_joined_int8.l0 k y0 y1 y2 y3) (impl_joined_int8.l0 (k + 1) y0 y1 y2 y3))
  | 0 => fun _ _ _ _ r h => by simp [impl_joined_int8.l0] at h
  | k + 1 => by
    have ih0 := impl_joined_int8.mono_l k
    · intro y0 y1 y2 y3
      unfold impl_joined_int8.l0
      repeat' first
      | (with_reducible exact ih0 _ _ _ _)
      | (with_reducible exact LeO.refl _)
      | (with_reducible exact LeO.none _)
      | (with_reducible refine LeO.ite ?_ ?_)
      | (with_reducible refine LeO.bind ?_ (fun _ => ?_))
      | exact ih0 _ _ _ _
      | exact LeO.none _
      | refine LeO.ite ?_ ?_
      | refine LeO.bind ?_ (fun _ => ?_)
theorem impl_joined_int8.mono : ∀ a0 k, LeO (impl_joined_int8.f k a0) (impl_joined_int8.f (k + 1) a0) := by
  intro a0 k
  have ih0 := impl_joined_int8.mono_l k
  unfold impl_joined_int8.f
  repeat' first
      | (with_reducible exact ih0 _ _ _ _)
      | (with_reducible exact LeO.refl _)
      | (with_reducible exact LeO.none _)
      | (with_reducible refine LeO.ite ?_ ?_)
      | (with_reducible refine LeO.bind ?_ (fun _ => ?_))
      | exact ih0 _ _ _ _
      | exact LeO.none _
      | refine LeO.ite ?_ ?_
      | refine LeO.bind ?_ (fun _ => ?_)
set_option maxHeartbeats 8000000 in
set_option maxRecDepth 100000 in
theorem impl_joined_int8.calls (k : Nat) (A0 : Option Addr) (c0 : Nat) (l0 : List Int) (r : ByteArray) (w : World) (hG_ : GlobP w) (hr0 : Kd.C (Kd.int .i8) w A0 l0.length l0) (hc0 : l0.length ≤ c0) (h : impl_joined_int8.f k l0 = some r) :
    Calls Tryz.prog 35 #[.slice A0 l0.length c0] w fun e w' => e = .returned (.string r) ∧ Below w.heap.size w w' := by
  have HR0 := Aside0.mk hr0
  have HC0 := Aside0.mk hc0
  clear hr0 hc0
  have HB := Aside0.mk (Below.refl w.heap.size w)
  have H : (impl_joined_int8.l0 k (([] : List ByteArray)) l0 (l0.length : Int) 0) = some r := h
  clear h
  obtain ⟨y202, hy202⟩ : ∃ y_ : List ByteArray, y_ = (([] : List ByteArray)) := ⟨_, rfl⟩
  replace H : (impl_joined_int8.l0 k y202 l0 (l0.length : Int) 0) = some r := by first | (rw [hy202]; with_reducible exact H) | (have H2_ := (Option.bind_some _ _).symm.trans H; rw [hy202]; with_reducible exact H2_) | (have H2_ := (Option.bind_some _ _).symm.trans H; with_reducible exact H2_) | with_reducible exact H | (rw [hy202]; exact H) | exact H
  have Ny202 := Aside0.mk hy202
  clear hy202
  have H' := Aside0.mk H
  clear H
  go_enter Tryz.func35, Tryz.ntmps35
  go_wp2_with (first | ((with_reducible refine gate_dst (N := 6) rfl ?_); refine Kd.R_lit Kd.string _ 9 ?hg (N := 6) ?hd (xs := ([] : List ByteArray)) (inner := []) (ok := fun _ => True) (okp := fun _ => True) ?hr ?hp (fun _ hk => hk) trivial (Below.refl _ _) (Nat.le_refl _) (by simp) ?_; (case hd => rfl); (case hg => rfl); (case hr => first | (go_simp; done) | (go_simp; rfl)); (case hp => exact (Reps.none _ _)); intro v203 w2 ho3 hb hg_ hnew_; clear hg_ hnew_; (first | rw [← Ny202.out] at ho3 | (simp only [Int.reduceToNat] at ho3; rw [← Ny202.out] at ho3)); have n0_ := Aside0.mk (Kd.R_lower ho3 (below_size (by repeat (first | (with_reducible first | exact HB.out | apply below_alloc | apply pw_below_drewN | apply below_drew1) | exact HB.out)))); have n1_ := Aside0.mk (below_step (by repeat (first | (with_reducible first | exact HB.out | apply below_alloc | apply pw_below_drewN | apply below_drew1) | exact HB.out)) hb); clear HB; have HO204 := n0_; have HB := n1_; clear n0_ n1_; clear hb ho3))
  go_loopg [3, 9] k (fun kq v3 v9 w' => ∃ (x3_1 : List ByteArray) (x9_1 : Int), v9 = .int .i64 x9_1 ∧ Aside0 (impl_joined_int8.l0 kq x3_1 l0 (l0.length : Int) x9_1 = some r) ∧ Aside0 (kq ≤ k) ∧ Aside0 (Kd.R Kd.string 9 w' w.heap.size (fun _ => True) v3 x3_1) ∧ Aside0 (Below w.heap.size w w'))
  case atStart => exact ⟨(y202), (0), (by first | rfl | (simp; done) | (simp [*]; done)), H', ⟨Nat.le_refl _⟩, ⟨by (with_reducible repeat (first | apply Kd.R_alloc | apply Kd.R_drewN | apply Kd.R_drew)); exact HO204.out⟩, ⟨by repeat (first | (with_reducible first | exact HB.out | apply below_alloc | apply pw_below_drewN | apply below_drew1) | exact HB.out)⟩⟩
  case round =>
    clear H'
    try clear p2
    try clear c3
    obtain ⟨x3_1, x9_1, rfl, HA, HK1, HO_3, HB⟩ := hrel
    cases gk with
    | zero => exact absurd HA.out (by simp [impl_joined_int8.l0])
    | succ k1 =>
      have H := HA.out
      clear HA
      simp only [impl_joined_int8.l0] at H
      by_cases c4 : x9_1 < (l0.length : Int)
      · rw [if_pos c4] at H
        have c4b0 : decide (x9_1 < (l0.length : Int)) = true := decide_eq_true c4
        clear c4
        by_cases c5 : 0 ≤ x9_1
        · rw [if_pos c5] at H
          have c5b0 : decide (0 ≤ x9_1) = true := decide_eq_true c5
          clear c5
          by_cases c6 : x9_1 < (l0.length : Int)
          · rw [if_pos c6] at H
            have c6b0 : decide (x9_1 < (l0.length : Int)) = true := decide_eq_true c6
            clear c6
            replace H := Option.bind_eq_some_iff.mp H
            obtain ⟨t206, A70, H⟩ := H
            replace H : (if x3_1.length < 8796093022208 then (impl_joined_int8.l0 k1 (x3_1 ++ [t206]) l0 (l0.length : Int) (wrap64 (x9_1 + 1))) else (none)) = some r := H
            have A7 := Aside0.mk A70
            clear A70
            by_cases c8 : x3_1.length < 8796093022208
            · rw [if_pos c8] at H
              have LMc8 := Aside0.mk c8
              clear c8
              obtain ⟨y207, hy207⟩ : ∃ y_ : List ByteArray, y_ = (x3_1 ++ [t206]) := ⟨_, rfl⟩
              replace H : (impl_joined_int8.l0 k1 y207 l0 (l0.length : Int) (wrap64 (x9_1 + 1))) = some r := by first | (rw [hy207]; with_reducible exact H) | (have H2_ := (Option.bind_some _ _).symm.trans H; rw [hy207]; with_reducible exact H2_) | (have H2_ := (Option.bind_some _ _).symm.trans H; with_reducible exact H2_) | with_reducible exact H | (rw [hy207]; exact H) | exact H
              have Ny207 := Aside0.mk hy207
              clear hy207
              have H' := Aside0.mk H
              clear H
              have p205 : 0 ≤ (x9_1 : Int) := of_decide_eq_true (by first | (with_reducible assumption) | assumption)
              have q205 : x9_1 < (l0.length : Int) := of_decide_eq_true (by first | (with_reducible assumption) | assumption)
              obtain ⟨ad205, e205, hx205_0⟩ := Kd.at_int HR0.out x9_1 p205 q205
              cases e205
              replace hx205_0 := (HB.out.cell (World.block_lt_of_cell? w _ hx205_0)).trans hx205_0
              replace p205 := eq_true p205
              replace q205 := eq_true q205
              go_wp2_with (first | ((with_reducible refine gate_callee (f := 34) rfl ?_); refine goesL_ (some 16) rfl rfl Tryz.func34 (by kernel_rfl) rfl #[.int .i64 (wrap64 (rd l0 x9_1))] rfl (by (try simp only [List.map_toArray, List.map_cons, List.map_nil]); first | done | rfl | (simp only [List.length_drop, List.length_take]; rfl)) ?_; (with_reducible refine (impl_decimal.calls (wrap64 (rd l0 x9_1)) t206 _ ?side1 A7.out).mono ?_); (case side1 => refine GlobP.step hG_ ?_; repeat (first | (with_reducible first | exact HB.out | apply below_alloc | apply pw_below_drewN | apply below_drew1) | exact HB.out)); rintro e w9 ⟨rfl, hb⟩; refine ⟨_, rfl, ?_⟩; have n0_ := Aside0.mk (Kd.R_below (by (with_reducible repeat (first | apply Kd.R_alloc | apply Kd.R_drewN | apply Kd.R_drew)); exact HO_3.out) hb); have n1_ := Aside0.mk (below_step (by repeat (first | (with_reducible first | exact HB.out | apply below_alloc | apply pw_below_drewN | apply below_drew1) | exact HB.out)) hb); clear HO_3; clear HB; have HO_3 := n0_; have HB := n1_; clear n0_ n1_; (try clear hb); (try clear hb2); (try clear hk); (try clear hi)) | ((with_reducible refine gate_builtin (b := .append) (xs := #[.tmp 13, .tmp 17]) rfl ?_); at_builtin; refine Kd.R_append Kd.string (w0 := w) w.heap.size rfl (.tmp 13) (.tmp 17) 38 9 (.string ⟨#[]⟩) 16 rfl Tryz.underlying38 info9 rfl (by decide) (by omega) u3 x3_1 t206 [.string t206] (fun _ => True) (fun _ => False) rfl rfl ?aP (fun _ hk => hk.elim) ?aF ?aO ?aB ?aS ?aL ?_; (case aP => exact rfl); (case aB => exact (by repeat (first | (with_reducible first | exact HB.out | apply below_alloc | apply pw_below_drewN | apply below_drew1) | exact HB.out))); (case aF => exact (fun _ _ => trivial)); (case aO => exact (by (with_reducible repeat (first | apply Kd.R_alloc | apply Kd.R_drewN | apply Kd.R_drew)); exact HO_3.out)); (case aS => exact (below_size (by repeat (first | (with_reducible first | exact HB.out | apply below_alloc | apply pw_below_drewN | apply below_drew1) | exact HB.out)))); (case aL => have := LMc8.out; omega); intro v208 w10 ho hb hg hat; rw [← Ny207.out] at ho; have n0_ := Aside0.mk (hb); have n1_ := Aside0.mk (ho); clear HB; clear HO_3; have HB := n0_; have HO209 := n1_; clear n0_ n1_; clear ho hb hg hat))
              go_roundg k1
              case measure => have := HK1.out; omega
              case rel => exact ⟨(y207), (wrap64 (x9_1 + 1)), (by first | rfl | (simp; done) | (simp [*]; done)), H', ⟨by have := HK1.out; omega⟩, ⟨by (with_reducible repeat (first | apply Kd.R_alloc | apply Kd.R_drewN | apply Kd.R_drew)); exact HO209.out⟩, ⟨by repeat (first | (with_reducible first | exact HB.out | apply below_alloc | apply pw_below_drewN | apply below_drew1) | exact HB.out)⟩⟩
            · rw [if_neg c8] at H
              exact absurd H (by simp)
          · rw [if_neg c6] at H
            exact absurd H (by simp)
        · rw [if_neg c5] at H
          exact absurd H (by simp)
      · rw [if_neg c4] at H
        have c4b0 : decide (x9_1 < (l0.length : Int)) = false := decide_eq_false c4
        clear c4
        replace H := Option.bind_eq_some_iff.mp H
        obtain ⟨t210, A110, H⟩ := H
        replace H : (some t210) = some r := H
        have A11 := Aside0.mk A110
        clear A110
        obtain rfl := Option.some.inj H
        obtain ⟨Ao12, co12, eo12⟩ := Kd.R_slice HO_3.out
        subst eo12
        go_wp2_with (first | ((with_reducible refine gate_callee (f := 36) rfl ?_); refine goesL_ (some 21) rfl rfl Tryz.func36 (by kernel_rfl) rfl #[.slice Ao12 x3_1.length co12, .string (⟨#[32]⟩ : ByteArray)] rfl (by (try simp only [List.map_toArray, List.map_cons, List.map_nil]); first | done | rfl | (simp only [List.length_drop, List.length_take]; rfl)) ?_; (with_reducible refine (strings_Join.calls _ _ x3_1 (⟨#[32]⟩ : ByteArray) t210 _ ?side1 ?side2 A11.out).mono ?_); (case side1 => repeat (first | exact (Kd.R_reads' HO_3.out).2.2 | (with_reducible refine Kd.C_alloc ?_ _) | (with_reducible refine Kd.C_drewN ?_ _) | (with_reducible refine Kd.C_drew ?_))); (case side2 => exact (Kd.R_reads' HO_3.out).2.1); rintro e w13 ⟨rfl, hb⟩; refine ⟨_, rfl, ?_⟩; have n0_ := Aside0.mk (Kd.R_below (by (with_reducible repeat (first | apply Kd.R_alloc | apply Kd.R_drewN | apply Kd.R_drew)); exact HO_3.out) hb); have n1_ := Aside0.mk (below_step (by repeat (first | (with_reducible first | exact HB.out | apply below_alloc | apply pw_below_drewN | apply below_drew1) | exact HB.out)) hb); clear HO_3; clear HB; have HO_3 := n0_; have HB := n1_; clear n0_ n1_; (try clear hb); (try clear hb2); (try clear hk); (try clear hi)))
        go_ret
        exact ⟨by first | rfl | (simp [errW_none, errW_some] <;> rfl) | (simp [*, errW_none, errW_some] <;> rfl), by repeat (first | (with_reducible first | exact HB.out | apply below_alloc | apply pw_below_drewN | apply below_drew1) | exact HB.out)⟩

end Go.Proofs.YtimkkjkgbbfgbaaGreatDoor.Q
end
section
/- FaceText: what it computes, in plain words; numbers and joined texts. -/
namespace Go.Proofs.YtimkkjkgbbfgbaaGreatDoor.Q
open Go.RowKit Go.Proofs.YtimkkjkgbbfgbaaGreatDoorW.PrintWords Go.Proofs.YtimkkjkgbbfgbaaGreatDoorW.PrintLast Go.Proofs.YtimkkjkgbbfgbaaGreatDoorW.PrintMore
open Go.Proofs.YtimkkjkgbbfgbaaGreatDoor.Pure
set_option linter.unusedVariables false
set_option linter.unusedSimpArgs false

def itoaB (n : Int) : ByteArray := ⟨(Lib.itoa n).toArray⟩
def blankT : ByteArray := ⟨#[32]⟩
def semiT : ByteArray := ⟨#[59]⟩
def preT {α : Type} (f : α → ByteArray) (l : List α) (k : Nat) : ByteArray := if 0 < k then joinB ((l.take k).map f) blankT ++ blankT else joinB ((l.take k).map f) blankT
theorem joinB_size_le (l : List ByteArray) (M : Nat) (h : ∀ x ∈ l, x.size ≤ M) : (joinB l blankT).size ≤ l.length * (M + 1) := by
  have := joinB_size l blankT M h (by decide)
  unfold joinB
  show ((Lib.join _ _).toArray).size ≤ _
  simpa using this
theorem blankT_size : blankT.size = 1 := rfl
theorem preT_step {α : Type} (f : α → ByteArray) (l : List α) (k : Nat) (h : k < l.length) : preT f l k ++ f l[k] = joinB ((l.take (k + 1)).map f) blankT := by
  rw [List.take_succ_eq_append_getElem h, List.map_append]
  unfold preT
  by_cases h0 : 0 < k
  · rw [if_pos h0]
    exact (joinB_snoc _ _ _ (by intro he; have := congrArg List.length he; rw [List.length_map, List.length_take] at this; simp only [List.length_nil] at this; omega)).symm
  · rw [if_neg h0]
    have : k = 0 := by omega
    subst this
    rw [List.take_zero, List.map_nil, List.nil_append]
    show joinB [] blankT ++ _ = joinB [f _] blankT
    rw [joinB_one, joinB_nil]
    exact ByteArray.empty_append
theorem decDigits_len (n : Nat) : ∀ k, n < 10 ^ (k + 1) → (Lib.decDigits n).length ≤ k + 1 := by
  intro k
  induction k generalizing n with
  | zero => intro h; rw [Lib.decDigits_one (by omega)]; simp
  | succ k ih =>
    intro h
    by_cases h1 : n < 10
    · rw [Lib.decDigits_one h1]; simp
    · have := ih (n / 10) (by rw [Nat.pow_succ] at h; omega)
      rw [Lib.decDigits, dif_neg h1, List.length_append]
      simp only [List.length_singleton]
      omega
theorem itoaB_size {n : Int} (h0 : 0 ≤ n) (h1 : n ≤ 99999) : (itoaB n).size ≤ 5 := by
  unfold itoaB
  show ((Lib.itoa n).toArray).size ≤ 5
  obtain ⟨m, rfl⟩ := Int.eq_ofNat_of_zero_le h0
  rw [Lib.itoa_nonneg]
  have := decDigits_len m 4 (by omega)
  simpa using this
theorem one_size (b : Int) : (strOfNums [b]).size = 1 := rfl
theorem two_size (a b : Int) : (strOfNums [a, b]).size = 2 := rfl
theorem itoaB_small {n : Int} (h0 : 0 ≤ n) (h1 : n ≤ 99) : (itoaB n).size ≤ 2 := by
  unfold itoaB
  show ((Lib.itoa n).toArray).size ≤ 2
  obtain ⟨m, rfl⟩ := Int.eq_ofNat_of_zero_le h0
  rw [Lib.itoa_nonneg]
  have := decDigits_len m 1 (by omega)
  simpa using this
/-- How much wider the gap is, with its sign. -/
def byT (n : Int) : ByteArray := (if n < 0 then (⟨#[45]⟩ : ByteArray) else ⟨#[43]⟩) ++ itoaB (if n < 0 then -n else n)
def prT (p : S33) : ByteArray := strOfNums [p.f0, p.f1] ++ byT p.f2
def midT (sp gp : Int) : ByteArray := (((semiT ++ itoaB sp) ++ semiT) ++ itoaB gp) ++ semiT
def faceT (ws : List Int) (sp gp : Int) (l : List S33) : ByteArray := (joinB (ws.map itoaB) blankT ++ midT sp gp) ++ joinB (l.map prT) blankT
theorem byT_neg {n : Int} (h : n < 0) (h2 : -1000 ≤ n) : itoaB n = byT n := by
  unfold byT
  rw [if_pos h, if_pos h]
  unfold itoaB
  obtain ⟨m, rfl⟩ : ∃ m : Nat, n = -((m + 1 : Nat) : Int) := ⟨(-n - 1).toNat, by omega⟩
  rw [Int.neg_neg, Lib.itoa_nonneg, app_list]
  congr 1
  have e : Lib.itoa (-((m + 1 : Nat) : Int)) = 45 :: Lib.decDigits (m + 1) := Lib.itoa_neg (m + 1) (by omega)
  rw [e]
  simp
theorem byT_pos {n : Int} (h : 0 < n) : (⟨#[43]⟩ : ByteArray) ++ itoaB n = byT n := by
  unfold byT
  rw [if_neg (by omega), if_neg (by omega)]
theorem byT_size {n : Int} (h0 : -10 ≤ n) (h1 : n ≤ 10) : (byT n).size ≤ 3 := by
  unfold byT
  rw [ByteArray.size_append]
  have h2 : (itoaB (if n < 0 then -n else n)).size ≤ 2 := by split <;> exact itoaB_small (by omega) (by omega)
  have h3 : (if n < 0 then (⟨#[45]⟩ : ByteArray) else ⟨#[43]⟩).size = 1 := by split <;> rfl
  omega
theorem two_sz (a b : Int) : (strOfNums [a, b]).size = 2 := rfl
theorem dec_val (n : Int) (h0 : -9223372036854775808 ≤ n) (h1 : n ≤ 9223372036854775807) : impl_decimal.f n = some (itoaB n) := by
  unfold impl_decimal.f strconv_FormatInt_70.f
  rw [if_pos ⟨rfl, h0, h1⟩]
  rfl
theorem joined_val (ws : List Int) (hx : ws.length = 26) (h : ∀ x ∈ ws, 0 ≤ x ∧ x ≤ 40) : impl_joined_int8.f 30 ws = some (joinB (ws.map itoaB) blankT) := by
  unfold impl_joined_int8.f
  have key : ∀ d i k, i + d = 26 → d < k → impl_joined_int8.l0 k ((ws.take i).map itoaB) ws (ws.length : Int) (i : Nat) = some (joinB (ws.map itoaB) blankT) := by
    intro d
    induction d with
    | zero =>
      intro i k hi hk
      obtain ⟨k, rfl⟩ : ∃ m, k = m + 1 := ⟨k - 1, by omega⟩
      have hJ : joinFine (ws.map itoaB) := ⟨by rw [List.length_map]; omega, fun y hy => by
        obtain ⟨z, hz, rfl⟩ := List.mem_map.1 hy
        have := itoaB_small (h z hz).1 (by have := (h z hz).2; omega)
        omega⟩
      rw [impl_joined_int8.l0, if_neg (by omega), List.take_of_length_le (by omega)]
      unfold strings_Join.f
      rw [if_pos ⟨hJ, by decide⟩]
      rfl
    | succ d ih =>
      intro i k hi hk
      obtain ⟨k, rfl⟩ : ∃ m, k = m + 1 := ⟨k - 1, by omega⟩
      have hlt : i < ws.length := by omega
      have hw := h _ (List.getElem_mem hlt)
      rw [impl_joined_int8.l0, if_pos (by omega), if_pos (by omega), if_pos (by omega), Pure.rd_get ws i hlt, wrap_id (by omega) (by omega), dec_val _ (by omega) (by omega)]
      simp only [Option.bind_some]
      rw [if_pos (by simp; omega), wrap_succ (i := i) (n := ws.length) hlt (by omega)]
      have e : (ws.take i).map itoaB ++ [itoaB ws[i]] = (ws.take (i + 1)).map itoaB := by rw [List.take_succ_eq_append_getElem hlt, List.map_append]; rfl
      rw [e]
      exact ih (i + 1) k (by omega) (by omega)
  exact key 26 0 30 (by omega) (by omega)
theorem preT_sz {α : Type} (f : α → ByteArray) (l : List α) (k m n : Nat) (hl : l.length ≤ n) (h : ∀ x ∈ l, (f x).size ≤ m) : (joinB ((l.take k).map f) blankT).size ≤ n * (m + 1) ∧ (preT f l k).size ≤ n * (m + 1) + 1 := by
  have h1 := joinB_size_le ((l.take k).map f) m (fun x hx => by
    obtain ⟨y, hy, rfl⟩ := List.mem_map.1 hx
    exact h y (List.mem_of_mem_take hy))
  have h2 : ((l.take k).map f).length ≤ n := by simp; omega
  have h3 : (joinB ((l.take k).map f) blankT).size ≤ n * (m + 1) := Nat.le_trans h1 (Nat.mul_le_mul_right _ h2)
  refine ⟨h3, ?_⟩
  unfold preT
  split
  · rw [ByteArray.size_append, blankT_size]; omega
  · omega
/-- What a valid face keeps to. -/
theorem valid_facts {ws : List Int} (hx : ws.length = 26) {sp gp : Int} {l : List S33} (h : validB ws sp gp l = true) : (∀ x ∈ ws, 1 ≤ x ∧ x ≤ 40) ∧ (1 ≤ sp ∧ sp ≤ 40) ∧ (0 ≤ gp ∧ gp ≤ 10) ∧ l.length ≤ 12 ∧ ∀ x ∈ l, -10 ≤ x.f2 ∧ x.f2 ≤ 10 ∧ x.f2 ≠ 0 := by
  unfold validB faceB wideB pairsB at h
  simp only [Bool.and_eq_true, decide_eq_true_eq, List.all_eq_true, List.mem_range] at h
  obtain ⟨⟨⟨⟨hw, hp⟩, hs⟩, hg⟩, hl⟩ := h
  unfold inB at hw hs hg
  simp only [Bool.and_eq_true, decide_eq_true_eq] at hw hs hg
  refine ⟨fun x hxm => ?_, hs, hg, by omega, fun x hxm => ?_⟩
  · obtain ⟨i, hi, rfl⟩ := List.getElem_of_mem hxm
    have h1 := hw i (by omega)
    rw [Pure.rd_get ws i hi] at h1
    exact h1
  · obtain ⟨i, hi, rfl⟩ := List.getElem_of_mem hxm
    have h1 := hp i hi
    unfold pairB inB at h1
    rw [rd46_get l i hi] at h1
    simp only [Bool.and_eq_true, decide_eq_true_eq, Bool.not_eq_true', decide_eq_false_iff_not] at h1
    obtain ⟨⟨⟨⟨_, h2⟩, h3⟩, _⟩, _⟩ := h1
    exact ⟨h2.1, h2.2, h3⟩
theorem bcellT {w w' : World} {p : Addr} {v : Value} (hb : Below w.heap.size w w') (h : w.cell? p = some v) : w'.cell? p = some v := (hb.cell (World.block_lt_of_cell? w _ h)).trans h
theorem joinB_le {α : Type} (f : α → ByteArray) (l : List α) (m n : Nat) (hl : l.length ≤ n) (h : ∀ x ∈ l, (f x).size ≤ m) : (joinB (l.map f) blankT).size ≤ n * (m + 1) := by
  have := (preT_sz f l l.length m n hl h).1
  rwa [List.take_length] at this
theorem midT_size {sp gp : Int} (h0 : 0 ≤ sp ∧ sp ≤ 99) (h1 : 0 ≤ gp ∧ gp ≤ 99) : (midT sp gp).size ≤ 7 := by
  unfold midT
  have a := itoaB_small h0.1 h0.2
  have b := itoaB_small h1.1 h1.2
  have s : semiT.size = 1 := rfl
  simp only [ByteArray.size_append, s]
  omega

end Go.Proofs.YtimkkjkgbbfgbaaGreatDoor.Q
end
section
/- impl.FaceText and spec.FaceText, by hand. -/
namespace Go.Proofs.YtimkkjkgbbfgbaaGreatDoor.Q
open Go.RowKit Go.Proofs.YtimkkjkgbbfgbaaGreatDoorW.PrintWords Go.Proofs.YtimkkjkgbbfgbaaGreatDoorW.PrintLast Go.Proofs.YtimkkjkgbbfgbaaGreatDoorW.PrintMore
open Go.Proofs.YtimkkjkgbbfgbaaGreatDoor.Pure
set_option linter.unusedVariables false
set_option linter.unusedSimpArgs false

def faceTextR (ws : List Int) (sp gp : Int) (l : List S33) : ByteArray := if validB ws sp gp l = true then faceT ws sp gp l else ⟨#[]⟩
theorem row8 {W : World} {g : Nat} {t : TypeId} {ws : List Int} {sp gp : Int} {v : Value} (h : W.heap[g]? = some (.cells (FV ws sp gp v) t (0, 0))) (hx : ws.length = 26) : Kd.C (Kd.int .i8) W (some ⟨g, 0, none⟩) 26 ws := by
  refine ⟨hx, by decide, fun _ => ⟨⟨g, 0, none⟩, rfl, fun j p hj => ⟨[.int .i8 p], rfl, rfl, fun i u hi => ?_⟩⟩⟩
  obtain ⟨hlt, rfl⟩ := List.getElem?_eq_some_iff.1 hj
  cases i with
  | zero =>
    obtain rfl : Value.int .i8 ws[j] = u := by simpa using hi
    show W.cell? ((⟨g, 0, none⟩ : Addr).add (j * 1 + 0)) = _
    rw [Nat.mul_one, Nat.add_zero, addr_at, blk_cell h j, FV_lt ws hx _ _ _ j (by omega), Pure.rd_get ws j hlt]
  | succ i => simp at hi
theorem joinedC (ws : List Int) (hx : ws.length = 26) (sp gp : Int) (v : Value) (t : TypeId) (g : Nat) (W : World) (hG : GlobP W) (h : W.heap[g]? = some (.cells (FV ws sp gp v) t (0, 0))) (hv : ∀ x ∈ ws, 1 ≤ x ∧ x ≤ 40) :
    Calls Tryz.prog 35 #[.slice (some ⟨g, 0, none⟩) 26 26] W fun e w' => e = .returned (.string (joinB (ws.map itoaB) blankT)) ∧ Below W.heap.size W w' := by
  have h1 := row8 h hx
  have := impl_joined_int8.calls 30 (some ⟨g, 0, none⟩) 26 ws (joinB (ws.map itoaB) blankT) W hG (by rw [hx]; exact h1) (by omega) (joined_val ws hx (fun x hm => by have := hv x hm; omega))
  rw [hx] at this
  exact this
theorem decC (n : Int) (h0 : -1000 ≤ n) (h1 : n ≤ 1000) (W : World) (hG : GlobP W) : Calls Tryz.prog 34 #[.int .i64 n] W fun e w' => e = .returned (.string (itoaB n)) ∧ Below W.heap.size W w' := impl_decimal.calls n (itoaB n) W hG (dec_val n (by omega) (by omega))
theorem joinC (A : Option Addr) (c : Nat) (rl : List ByteArray) (W : World) (hr : Kd.C Kd.string W A rl.length rl) (hc : rl.length ≤ c) (hl : rl.length ≤ 12) (hs : ∀ x ∈ rl, x.size ≤ 100) : Calls Tryz.prog 36 #[.slice A rl.length c, .string ⟨#[32]⟩] W fun e w' => e = .returned (.string (joinB rl blankT)) ∧ Below W.heap.size W w' :=
  strings_Join.callsN A c rl ⟨#[32]⟩ W hr hc ⟨by omega, fun x hx => by have := hs x hx; omega⟩ (by decide)
set_option maxHeartbeats 8000000 in
set_option maxRecDepth 100000 in
theorem implFaceTextC (ws : List Int) (hx : ws.length = 26) (sp gp : Int) (A : Option Addr) (c : Nat) (l : List S33) (w : World) (hG : GlobP w) (hr : Kd.C k33 w A l.length l) (hc : l.length ≤ c) (hl : l.length ≤ 1048576) (hf : Fit ws sp gp l) :
    Calls Tryz.prog 9 #[.agg (FV ws sp gp (.slice A l.length c))] w fun e w' => e = .returned (.string (faceTextR ws sp gp l)) ∧ Below w.heap.size w w' := by
  go_enter Tryz.func9, Tryz.ntmps9
  obtain ⟨M, hM⟩ : ∃ M : Nat, M = 29 := ⟨_, rfl⟩
  obtain ⟨U, hU⟩ : ∃ U : TypeId, U = 28 := ⟨_, rfl⟩
  have huU := fun w => (show (underlying U).run Tryz.prog w = (underlying 28).run Tryz.prog w by rw [hU]).trans (run_underlying (P := Tryz.prog) (w := w) Tryz.underlying28)
  have hzU : ∀ w, (sizeOf U).run Tryz.prog w = .ok M w := fun w => by rw [hM, hU]; exact Tryz.sizeOf28 w
  have haU : ∀ w, (isAgg U).run Tryz.prog w = .ok true w := fun w => by rw [hU]; exact Tryz.isAgg28 w
  have hvU : ∀ w, (zeroValue U).run Tryz.prog w = .ok (.agg ZF) w := fun w => by rw [hU]; exact Tryz.zeroValue28 w
  have e2 : ∀ x, Op.load 28 x = Op.load U x := fun x => by rw [hU]
  have e3 : ∀ x y, Op.store 28 x y = Op.store U x y := fun x y => by rw [hU]
  have e4 : Op.alloc 28 = Op.alloc U := by rw [hU]
  have e5 : ∀ x, Op.build 28 x = Op.build U x := fun x => by rw [hU]
  simp only [e2, e3, e4, e5]
  clear e2 e3 e4 e5
  have hFa : ∀ g v, (FV ws sp g v).size = M := fun g v => by rw [FV_size ws hx, hM]
  have hFz : ZF.size = M := by rw [hM]; rfl
  have HM := Lib.hid hM
  have HG := Lib.hid hG
  have HX := Lib.hid hx
  have HR := Lib.hid hr
  have HC := Lib.hid hc
  have HL := Lib.hid hl
  have HF := Lib.hid hf
  clear hG hM hU hx hr hc hl hf
  have H1 := Lib.hid (heap_alloc_new w (.cells (FV ws sp gp (.slice A l.length c)) 28))
  have HB := Lib.hid (below_alloc (Below.refl w.heap.size w) (.cells (FV ws sp gp (.slice A l.length c)) 28))
  have q0 := loadF H1.out HX.out HM.out
  unfold faceTextR
  cases hv : validB ws sp gp l with
  | false =>
    have EV := Lib.hid hv
    clear hv
    go_wp2_with (first
      | (go_at_call 17
         with_reducible refine (implValidC ws HX.out sp gp A c l _ (Kd.C_below HR.out HB.out) HC.out HL.out HF.out false EV.out).mono ?_
         rintro e w1 ⟨rfl, hb⟩
         have B1 := Lib.hid (below_step HB.out hb)
         clear hb))
    go_ret
    exact ⟨rfl, B1.out⟩
  | true =>
    obtain ⟨vw, vs, vg, vl, vp⟩ := valid_facts HX.out hv
    have EV := Lib.hid hv
    have HVW := Lib.hid vw
    have HVS := Lib.hid vs
    have HVG := Lib.hid vg
    have HVL := Lib.hid vl
    have HVP := Lib.hid vp
    clear hv vw vs vg vl vp
    go_wp2_with (first
      | (go_at_call 17
         with_reducible refine (implValidC ws HX.out sp gp A c l _ (Kd.C_below HR.out HB.out) HC.out HL.out HF.out true EV.out).mono ?_
         rintro e w1 ⟨rfl, hb⟩
         have B1 := Lib.hid (below_step HB.out hb)
         have K1 := Lib.hid ((hb.block _ (blk_lt H1.out)).trans H1.out)
         have S1 := Lib.hid (blk_lt K1.out)
         clear hb q0)
      | ((with_reducible refine gate_dst (N := 10) rfl ?_); refine Kd.R_lit Kd.string _ 9 ?hg (N := 10) ?hd (xs := ([] : List ByteArray)) (inner := []) (ok := fun _ => True) (okp := fun _ => True) ?hr ?hp (fun _ hk => hk) trivial (Below.refl _ _) (Nat.le_refl _) (by simp) ?_; (case hd => rfl); (case hg => rfl); (case hr => first | (go_simp; done) | (go_simp; rfl)); (case hp => exact (Reps.none _ _)); intro v0 w7 ho8 hb hg_ hnew_; clear hg_ hnew_
         have R7 := Lib.hid (Kd.R_lower (ok := fun k => w.heap.size < k) (Kd.R_mono (Kd.R_bound ho8) (fun k hk => Nat.lt_of_lt_of_le S1.out hk.2.1)) (show w.heap.size ≤ w1.heap.size from B1.out.size))
         have B7 := Lib.hid (below_step B1.out hb)
         have K7 := Lib.hid ((hb.block _ (blk_lt K1.out)).trans K1.out)
         have c28 := (blk_cell K7.out 28).trans (FV_28 ws HX.out _ _ _)
         clear ho8 hb))
    clear c28 K1
    go_loopw [3, 14] (fun v i wr => ∃ (j : Nat), j ≤ l.length ∧ i = .int .i64 j ∧ RowKit.Hid (Kd.R Kd.string 9 wr w.heap.size (fun k => w.heap.size < k) v ((l.take j).map prT)) ∧ RowKit.Hid (wr.heap[w.heap.size]? = some (.cells (FV ws sp gp (.slice A l.length c)) 28 (0, 0))) ∧ RowKit.Hid (Below w.heap.size w wr)) (fun _ i _ => l.length - (intOf i).toNat)
    case atStart => exact ⟨0, Nat.zero_le _, rfl, R7, K7, B7⟩
    case round =>
      clear R7 K7 B7 B1 S1
      obtain ⟨j, hj, rfl, RV, KV, HW⟩ := hrel
      have hbl : (l.length : Int) ≤ 12 := by have := HVL.out; omega
      by_cases hlj : j < l.length
      · have hlj2 : (j : Int) < (l.length : Int) := by omega
        obtain ⟨ad, rfl, hx0, hx1, hx2⟩ := at_T33 (Kd.C_below HR.out HW.out) (j : Int) (by omega) (by omega)
        simp only [Int.toNat_natCast] at hx0 hx1 hx2
        have hv5 := HVP.out _ (List.getElem_mem hlj)
        have EX := Lib.hid (rd46_get l j hlj)
        rw [EX.out] at hx0 hx1 hx2
        obtain ⟨x, hxx⟩ : ∃ x, x = l[j] := ⟨_, rfl⟩
        rw [← hxx] at hx0 hx1 hx2 hv5
        have HXX := Lib.hid hxx
        clear EX hxx
        obtain ⟨hv1, hv2, hv3⟩ := hv5
        have HB2 := Lib.hid (below_alloc (Below.refl wr.heap.size wr) (.cells #[.int .u8 x.f0, .int .u8 x.f1, .int .i8 x.f2] 33))
        have HY := Lib.hid (heap_alloc_new wr (.cells #[.int .u8 x.f0, .int .u8 x.f1, .int .i8 x.f2] 33))
        have d2 : (wr.alloc (.cells #[.int .u8 x.f0, .int .u8 x.f1, .int .i8 x.f2] 33)).cell? ⟨wr.heap.size, 2, none⟩ = some (.int .i8 x.f2) := (blk_cell HY.out 2).trans rfl
        have hx5 : IntKind.i64.wrap x.f2 = x.f2 := IntWalk.i64_in _ (by omega)
        have HN0 := Lib.hid (show -1000 ≤ x.f2 ∧ x.f2 ≤ 1000 by omega)
        obtain ⟨ib, hib⟩ : ∃ ib, ib = itoaB x.f2 := ⟨_, rfl⟩
        have zi : ib.size ≤ 3 := by
          by_cases hneg : x.f2 < 0
          · rw [hib, byT_neg hneg (by omega)]; exact byT_size hv1 hv2
          · rw [hib]; have := itoaB_small (n := x.f2) (by omega) (by omega); omega
        have HD := Lib.hid (fun W (hW : GlobP W) => show Calls Tryz.prog 34 #[.int .i64 x.f2] W fun e w' => e = .returned (.string ib) ∧ Below W.heap.size W w' from by rw [hib]; exact decC x.f2 HN0.out.1 HN0.out.2 W hW)
        obtain ⟨sb, hsb⟩ : ∃ sb, sb = strOfNums [x.f0, x.f1] := ⟨_, rfl⟩
        have zb : sb.size ≤ 2 := by rw [hsb]; exact Nat.le_refl _
        have HSB := Lib.hid hsb
        have hpl : (⟨#[43]⟩ : ByteArray).size = 1 := rfl
        have HTK := Lib.hid (show (l.take j).map prT ++ [sb ++ byT x.f2] = (l.take (j + 1)).map prT by rw [List.take_succ_eq_append_getElem hlj, List.map_append, ← HXX.out, hsb]; rfl)
        have HTL := Lib.hid (show ((l.take j).map prT).length ≤ 12 by simp; omega)
        have HIB := Lib.hid hib
        clear hsb hib
        obtain ⟨rj, hrj⟩ : ∃ rj, rj = (l.take j).map prT := ⟨_, rfl⟩
        rw [← hrj] at HTK HTL RV
        clear hrj
        obtain ⟨B, d, rfl⟩ := Kd.R_slice RV.out
        have z1a : decide (1 + ib.size ≤ 9223372036854775807) = true := decide_eq_true (by omega)
        have z1b : ¬ (9223372036854775807 < 1 + ib.size) := (by omega)
        have z2a : decide ((⟨#[43]⟩ : ByteArray).size + ib.size ≤ 9223372036854775807) = true := decide_eq_true (by rw [hpl]; omega)
        have z2b : ¬ (9223372036854775807 < (⟨#[43]⟩ : ByteArray).size + ib.size) := (by rw [hpl]; omega)
        have z3a : decide (sb.size + (1 + ib.size) ≤ 9223372036854775807) = true := decide_eq_true (by omega)
        have z3b : ¬ (9223372036854775807 < sb.size + (1 + ib.size)) := (by omega)
        have z4a : decide (sb.size + ((⟨#[43]⟩ : ByteArray) ++ ib).size ≤ 9223372036854775807) = true := decide_eq_true (by rw [ByteArray.size_append, hpl]; omega)
        have z4b : ¬ (9223372036854775807 < sb.size + ((⟨#[43]⟩ : ByteArray) ++ ib).size) := (by rw [ByteArray.size_append, hpl]; omega)
        have z5a : decide (sb.size + ib.size ≤ 9223372036854775807) = true := decide_eq_true (by omega)
        have z5b : ¬ (9223372036854775807 < sb.size + ib.size) := (by omega)
        by_cases hpos : 0 < x.f2
        · have s1 : decide (x.f2 > 0) = true := decide_eq_true (by omega)
          have s2 : decide ((0 : Int) < x.f2) = true := decide_eq_true (by omega)
          have EB := Lib.hid (show (⟨#[43]⟩ : ByteArray) ++ ib = byT x.f2 by rw [HIB.out]; exact byT_pos hpos)
          have HPOS := Lib.hid hpos
          clear hpos hv1 hv2 hv3
          go_wp2_with (first
            | (go_at_call 34
               with_reducible refine (HD.out _ (HG.out.step (below_step HW.out HB2.out))).mono ?_
               rintro e w3 ⟨rfl, hb⟩
               have B3 := Lib.hid (below_step (below_step HW.out HB2.out) hb)
               have Y3 := Lib.hid ((hb.block _ (blk_lt HY.out)).trans HY.out)
               have e2 : w3.cell? ⟨wr.heap.size, 2, none⟩ = some (.int .i8 x.f2) := (blk_cell Y3.out 2).trans rfl
               have e0 : w3.cell? ⟨wr.heap.size, 0, none⟩ = some (.int .u8 x.f0) := (blk_cell Y3.out 0).trans rfl
               have e1 : w3.cell? ⟨wr.heap.size, 1, none⟩ = some (.int .u8 x.f1) := (blk_cell Y3.out 1).trans rfl
               have R3 := Lib.hid (Kd.R_below (Kd.R_below RV.out HB2.out) hb)
               have K3 := Lib.hid ((hb.block w.heap.size (by have := blk_lt KV.out; simp; omega)).trans ((HB2.out.block _ (blk_lt KV.out)).trans KV.out))
               clear hb d2)
            | ((with_reducible refine gate_dst (N := 32) rfl ?_); refine Kd.R_lit (Kd.int .u8) _ 5 ?hg (N := 32) ?hd (xs := ([x.f0, x.f1] : List Int)) (inner := [.int .u8 x.f0, .int .u8 x.f1]) (ok := fun _ => True) (okp := fun _ => True) ?hr ?hp (fun _ hk => hk) trivial (Below.refl _ _) (Nat.le_refl _) (by simp) ?_; (case hd => rfl); (case hg => rfl); (case hr => first | (go_simp; done) | (go_simp; rfl)); (case hp => exact (Reps.one (show Kd.M (Kd.int .u8) _ _ _ x.f0 [.int .u8 x.f0] from rfl) (Reps.one (show Kd.M (Kd.int .u8) _ _ _ x.f1 [.int .u8 x.f1] from rfl) (Reps.none _ _)))); intro v5 w5 ho8 hb hg_ hnew_; clear hg_ hnew_
               have hcv := own_string (P := Tryz.prog) Tryz.underlying22 Tryz.underlying5 Tryz.underlying9 (Kd.own_of_R ho8)
               rw [← HSB.out] at hcv
               have B5 := Lib.hid (below_step B3.out hb)
               have R5 := Lib.hid (Kd.R_below R3.out hb)
               have K5 := Lib.hid ((hb.block _ (blk_lt K3.out)).trans K3.out)
               clear ho8 hb e0 e1 e2)
            | ((with_reducible refine gate_builtin (b := .append) (xs := #[.tmp 27, .tmp 36]) rfl ?_); at_builtin; refine Kd.R_append Kd.string (w0 := w) w.heap.size rfl (.tmp 27) (.tmp 36) 38 9 (.string ⟨#[]⟩) 16 rfl Tryz.underlying38 info9 rfl (by decide) (by omega) (.slice B rj.length d) rj (sb ++ ((⟨#[43]⟩ : ByteArray) ++ ib)) [.string (sb ++ ((⟨#[43]⟩ : ByteArray) ++ ib))] (fun k => w.heap.size < k) (fun _ => False) ?hS ?hX ?aP (fun _ hk => hk.elim) ?aF ?aO ?aB ?aS ?aL ?_; (case hS => rfl); (case hX => first | rfl | (go_simp; done) | (simp [World.alloc]; done) | (go_simp; rfl)); (case aP => exact rfl); (case aF => exact fun k hk => Nat.lt_of_lt_of_le (blk_lt K5.out) hk); (case aO => exact R5.out); (case aB => exact B5.out); (case aS => exact B5.out.size); (case aL => have := HTL.out; omega); intro v6 w6 ho hb hg hat
               have B6 := Lib.hid hb
               have R6 := Lib.hid ho
               have K6 := Lib.hid ((hg.block w.heap.size (blk_lt K5.out) (fun he => by have := R5.out.1 w.heap.size he.symm; exact Nat.lt_irrefl _ this)).trans K5.out)
               clear ho hb hg hat hcv))
          go_roundw
          case measure => simp only [intOf]; omega
          case rel => exact ⟨j + 1, by omega, by go_num, Lib.hid (by rw [← HTK.out, ← EB.out]; exact R6.out), K6, B6⟩
        · have s1 : decide (x.f2 > 0) = false := decide_eq_false (by omega)
          have s2 : decide ((0 : Int) < x.f2) = false := decide_eq_false (by omega)
          have s3 : ¬ x.f2 > 0 := hpos
          have EB := Lib.hid (show ib = byT x.f2 by rw [HIB.out]; exact byT_neg (by omega) (by omega))
          clear hpos hv1 hv2 hv3
          go_wp2_with (first
            | (go_at_call 34
               with_reducible refine (HD.out _ (HG.out.step (below_step HW.out HB2.out))).mono ?_
               rintro e w3 ⟨rfl, hb⟩
               have B3 := Lib.hid (below_step (below_step HW.out HB2.out) hb)
               have Y3 := Lib.hid ((hb.block _ (blk_lt HY.out)).trans HY.out)
               have e2 : w3.cell? ⟨wr.heap.size, 2, none⟩ = some (.int .i8 x.f2) := (blk_cell Y3.out 2).trans rfl
               have e0 : w3.cell? ⟨wr.heap.size, 0, none⟩ = some (.int .u8 x.f0) := (blk_cell Y3.out 0).trans rfl
               have e1 : w3.cell? ⟨wr.heap.size, 1, none⟩ = some (.int .u8 x.f1) := (blk_cell Y3.out 1).trans rfl
               have R3 := Lib.hid (Kd.R_below (Kd.R_below RV.out HB2.out) hb)
               have K3 := Lib.hid ((hb.block w.heap.size (by have := blk_lt KV.out; simp; omega)).trans ((HB2.out.block _ (blk_lt KV.out)).trans KV.out))
               clear hb d2)
            | ((with_reducible refine gate_dst (N := 32) rfl ?_); refine Kd.R_lit (Kd.int .u8) _ 5 ?hg (N := 32) ?hd (xs := ([x.f0, x.f1] : List Int)) (inner := [.int .u8 x.f0, .int .u8 x.f1]) (ok := fun _ => True) (okp := fun _ => True) ?hr ?hp (fun _ hk => hk) trivial (Below.refl _ _) (Nat.le_refl _) (by simp) ?_; (case hd => rfl); (case hg => rfl); (case hr => first | (go_simp; done) | (go_simp; rfl)); (case hp => exact (Reps.one (show Kd.M (Kd.int .u8) _ _ _ x.f0 [.int .u8 x.f0] from rfl) (Reps.one (show Kd.M (Kd.int .u8) _ _ _ x.f1 [.int .u8 x.f1] from rfl) (Reps.none _ _)))); intro v5 w5 ho8 hb hg_ hnew_; clear hg_ hnew_
               have hcv := own_string (P := Tryz.prog) Tryz.underlying22 Tryz.underlying5 Tryz.underlying9 (Kd.own_of_R ho8)
               rw [← HSB.out] at hcv
               have B5 := Lib.hid (below_step B3.out hb)
               have R5 := Lib.hid (Kd.R_below R3.out hb)
               have K5 := Lib.hid ((hb.block _ (blk_lt K3.out)).trans K3.out)
               clear ho8 hb e0 e1 e2)
            | ((with_reducible refine gate_builtin (b := .append) (xs := #[.tmp 27, .tmp 36]) rfl ?_); at_builtin; refine Kd.R_append Kd.string (w0 := w) w.heap.size rfl (.tmp 27) (.tmp 36) 38 9 (.string ⟨#[]⟩) 16 rfl Tryz.underlying38 info9 rfl (by decide) (by omega) (.slice B rj.length d) rj (sb ++ ib) [.string (sb ++ ib)] (fun k => w.heap.size < k) (fun _ => False) ?hS ?hX ?aP (fun _ hk => hk.elim) ?aF ?aO ?aB ?aS ?aL ?_; (case hS => rfl); (case hX => first | rfl | (go_simp; done) | (simp [World.alloc]; done) | (go_simp; rfl)); (case aP => exact rfl); (case aF => exact fun k hk => Nat.lt_of_lt_of_le (blk_lt K5.out) hk); (case aO => exact R5.out); (case aB => exact B5.out); (case aS => exact B5.out.size); (case aL => have := HTL.out; omega); intro v6 w6 ho hb hg hat
               have B6 := Lib.hid hb
               have R6 := Lib.hid ho
               have K6 := Lib.hid ((hg.block w.heap.size (blk_lt K5.out) (fun he => by have := R5.out.1 w.heap.size he.symm; exact Nat.lt_irrefl _ this)).trans K5.out)
               clear ho hb hg hat hcv))
          go_roundw
          case measure => simp only [intOf]; omega
          case rel => exact ⟨j + 1, by omega, by go_num, Lib.hid (by rw [← HTK.out, ← EB.out]; exact R6.out), K6, B6⟩
      · have hlj2 : ¬ (j : Int) < (l.length : Int) := by omega
        have RW0 := RV.out
        rw [List.take_of_length_le (show l.length ≤ j by omega)] at RW0
        have RW := Lib.hid RW0
        clear RV RW0
        obtain ⟨rl, hrl⟩ : ∃ rl, rl = l.map prT := ⟨_, rfl⟩
        rw [← hrl] at RW
        have HRLl := Lib.hid (show rl.length ≤ 12 by rw [hrl, List.length_map]; exact HVL.out)
        have HRLs := Lib.hid (show ∀ y ∈ rl, y.size ≤ 5 from fun y hy => by
          rw [hrl] at hy
          obtain ⟨z, hz, rfl⟩ := List.mem_map.1 hy
          unfold prT
          rw [ByteArray.size_append, two_sz]
          have := byT_size (HVP.out z hz).1 (HVP.out z hz).2.1
          omega)
        have HRLE := Lib.hid hrl
        clear hrl
        obtain ⟨B, d, rfl⟩ := Kd.R_slice RW.out
        have c26 := (blk_cell KV.out 26).trans (FV_26 ws HX.out _ _ _)
        have c27 := (blk_cell KV.out 27).trans (FV_27 ws HX.out _ _ _)
        have hsp := HVS.out
        have hgp := HVG.out
        have hw1 : IntKind.i64.wrap sp = sp := IntWalk.i64_in _ (by omega)
        have hw2 : IntKind.i64.wrap gp = gp := IntWalk.i64_in _ (by omega)
        have HJW := Lib.hid (fun W (hW : GlobP W) hK => joinedC ws HX.out sp gp (.slice A l.length c) 28 w.heap.size W hW hK HVW.out)
        have HSW := Lib.hid (fun W (hW : GlobP W) => decC sp (by omega) (by omega) W hW)
        have HGW := Lib.hid (fun W (hW : GlobP W) => decC gp (by omega) (by omega) W hW)
        have HTW := Lib.hid (fun W hR => joinC B d rl W hR (Kd.R_reads' RW.out).2.1 HRLl.out (fun y hy => by have := HRLs.out y hy; omega))
        obtain ⟨jb, hjb⟩ : ∃ jb, jb = joinB (ws.map itoaB) blankT := ⟨_, rfl⟩
        obtain ⟨sb, hsb⟩ : ∃ sb, sb = itoaB sp := ⟨_, rfl⟩
        obtain ⟨gb, hgb⟩ : ∃ gb, gb = itoaB gp := ⟨_, rfl⟩
        obtain ⟨tb, htb⟩ : ∃ tb, tb = joinB rl blankT := ⟨_, rfl⟩
        rw [← hjb] at HJW
        rw [← hsb] at HSW
        rw [← hgb] at HGW
        rw [← htb] at HTW
        have zj : jb.size ≤ 78 := by rw [hjb]; exact joinB_le itoaB ws 2 26 (by have := HX.out; omega) (fun y hy => itoaB_small (by have := (HVW.out y hy).1; omega) (by have := (HVW.out y hy).2; omega))
        have zs : sb.size ≤ 2 := by rw [hsb]; exact itoaB_small (by omega) (by omega)
        have zg : gb.size ≤ 2 := by rw [hgb]; exact itoaB_small (by omega) (by omega)
        have zt : tb.size ≤ 72 := by rw [htb, HRLE.out]; exact joinB_le prT l 5 12 HVL.out (fun y hy => by unfold prT; rw [ByteArray.size_append, two_sz]; have := byT_size (HVP.out y hy).1 (HVP.out y hy).2.1; omega)
        have PF := Lib.hid (show (((((jb ++ (⟨#[59]⟩ : ByteArray)) ++ sb) ++ ⟨#[59]⟩) ++ gb) ++ ⟨#[59]⟩) ++ tb = faceT ws sp gp l by
          unfold faceT midT semiT
          rw [← HRLE.out, ← hjb, ← hsb, ← hgb, ← htb]
          simp only [ByteArray.append_assoc])
        have hsm : (⟨#[59]⟩ : ByteArray).size = 1 := rfl
        clear hjb hsb hgb htb hsp hgp
        have z6a : decide (jb.size + (⟨#[59]⟩ : ByteArray).size ≤ 9223372036854775807) = true := decide_eq_true (by simp only [ByteArray.size_append, hsm]; omega)
        have z6b : ¬ (9223372036854775807 < jb.size + (⟨#[59]⟩ : ByteArray).size) := (by simp only [ByteArray.size_append, hsm]; omega)
        have z7a : decide (jb.size + 1 ≤ 9223372036854775807) = true := decide_eq_true (by omega)
        have z7b : ¬ (9223372036854775807 < jb.size + 1) := (by omega)
        have z8a : decide ((jb ++ (⟨#[59]⟩ : ByteArray)).size + sb.size ≤ 9223372036854775807) = true := decide_eq_true (by simp only [ByteArray.size_append, hsm]; omega)
        have z8b : ¬ (9223372036854775807 < (jb ++ (⟨#[59]⟩ : ByteArray)).size + sb.size) := (by simp only [ByteArray.size_append, hsm]; omega)
        have z9a : decide ((jb.size + 1) + sb.size ≤ 9223372036854775807) = true := decide_eq_true (by omega)
        have z9b : ¬ (9223372036854775807 < (jb.size + 1) + sb.size) := (by omega)
        have z10a : decide (((jb ++ (⟨#[59]⟩ : ByteArray)) ++ sb).size + (⟨#[59]⟩ : ByteArray).size ≤ 9223372036854775807) = true := decide_eq_true (by simp only [ByteArray.size_append, hsm]; omega)
        have z10b : ¬ (9223372036854775807 < ((jb ++ (⟨#[59]⟩ : ByteArray)) ++ sb).size + (⟨#[59]⟩ : ByteArray).size) := (by simp only [ByteArray.size_append, hsm]; omega)
        have z11a : decide (((jb.size + 1) + sb.size) + 1 ≤ 9223372036854775807) = true := decide_eq_true (by omega)
        have z11b : ¬ (9223372036854775807 < ((jb.size + 1) + sb.size) + 1) := (by omega)
        have z12a : decide ((((jb ++ (⟨#[59]⟩ : ByteArray)) ++ sb) ++ (⟨#[59]⟩ : ByteArray)).size + gb.size ≤ 9223372036854775807) = true := decide_eq_true (by simp only [ByteArray.size_append, hsm]; omega)
        have z12b : ¬ (9223372036854775807 < (((jb ++ (⟨#[59]⟩ : ByteArray)) ++ sb) ++ (⟨#[59]⟩ : ByteArray)).size + gb.size) := (by simp only [ByteArray.size_append, hsm]; omega)
        have z13a : decide ((((jb.size + 1) + sb.size) + 1) + gb.size ≤ 9223372036854775807) = true := decide_eq_true (by omega)
        have z13b : ¬ (9223372036854775807 < (((jb.size + 1) + sb.size) + 1) + gb.size) := (by omega)
        have z14a : decide (((((jb ++ (⟨#[59]⟩ : ByteArray)) ++ sb) ++ (⟨#[59]⟩ : ByteArray)) ++ gb).size + (⟨#[59]⟩ : ByteArray).size ≤ 9223372036854775807) = true := decide_eq_true (by simp only [ByteArray.size_append, hsm]; omega)
        have z14b : ¬ (9223372036854775807 < ((((jb ++ (⟨#[59]⟩ : ByteArray)) ++ sb) ++ (⟨#[59]⟩ : ByteArray)) ++ gb).size + (⟨#[59]⟩ : ByteArray).size) := (by simp only [ByteArray.size_append, hsm]; omega)
        have z15a : decide (((((jb.size + 1) + sb.size) + 1) + gb.size) + 1 ≤ 9223372036854775807) = true := decide_eq_true (by omega)
        have z15b : ¬ (9223372036854775807 < ((((jb.size + 1) + sb.size) + 1) + gb.size) + 1) := (by omega)
        have z16a : decide ((((((jb ++ (⟨#[59]⟩ : ByteArray)) ++ sb) ++ (⟨#[59]⟩ : ByteArray)) ++ gb) ++ (⟨#[59]⟩ : ByteArray)).size + tb.size ≤ 9223372036854775807) = true := decide_eq_true (by simp only [ByteArray.size_append, hsm]; omega)
        have z16b : ¬ (9223372036854775807 < (((((jb ++ (⟨#[59]⟩ : ByteArray)) ++ sb) ++ (⟨#[59]⟩ : ByteArray)) ++ gb) ++ (⟨#[59]⟩ : ByteArray)).size + tb.size) := (by simp only [ByteArray.size_append, hsm]; omega)
        have z17a : decide ((((((jb.size + 1) + sb.size) + 1) + gb.size) + 1) + tb.size ≤ 9223372036854775807) = true := decide_eq_true (by omega)
        have z17b : ¬ (9223372036854775807 < (((((jb.size + 1) + sb.size) + 1) + gb.size) + 1) + tb.size) := (by omega)
        go_wp2
        have HW2 := Lib.hid (below_drew1 HW.out)
        have d26 : wr.drew.cell? ⟨w.heap.size, 26, none⟩ = some (.int .i8 sp) := c26
        have d27 : wr.drew.cell? ⟨w.heap.size, 27, none⟩ = some (.int .i8 gp) := c27
        have KQ := Lib.hid (show wr.drew.heap[w.heap.size]? = some (.cells (FV ws sp gp (.slice A l.length c)) 28 (0, 0)) from KV.out)
        have RQ := Lib.hid (Kd.R_below RW.out (below_drew1 (Below.refl wr.heap.size wr)))
        have HGQ := Lib.hid (HG.out.step HW2.out)
        clear c26 c27 HW
        refine start_ (n := 20) (S := fun w' => Below (wr).drew.heap.size (wr).drew w') (ds := []) #[false, false, false, false, false, false, false, false, false, false, false, false, false, false, false, false, false, false, false, false] (by kernel_rfl) rfl rfl (Below.refl _ _) (fun hHeld => ?_)
        generalize wr.drew = wq at HW2 d26 d27 KQ RQ HGQ hHeld ⊢
        refine pure_ (i := 0) (N := some 39) (v := ?_) (a' := ?_) #[true, false, false, false, false, false, false, false, false, false, false, false, false, false, false, false, false, false, false, false] rfl rfl (by kernel_rfl) (fun _ _ _ h => h) (Or.inl ⟨by rfl, ?_⟩) ?_ ?_
        rotate_left
        · intro w'
          go_simp
          with_reducible rfl
        rotate_left
        · simp only [Act.put, List.setIfInBounds_toArray, List.set_cons_zero, List.set_cons_succ, i64_w, i32_w]
          rfl
        refine pure_ (i := 1) (N := some 40) (v := ?_) (a' := ?_) #[true, true, false, false, false, false, false, false, false, false, false, false, false, false, false, false, false, false, false, false] rfl rfl (by kernel_rfl) (fun _ _ _ h => h) (Or.inl ⟨by rfl, ?_⟩) ?_ ?_
        rotate_left
        · intro w'
          go_simp
          with_reducible rfl
        rotate_left
        · simp only [Act.put, List.setIfInBounds_toArray, List.set_cons_zero, List.set_cons_succ, i64_w, i32_w]
          rfl
        refine pure_ (i := 4) (N := some 43) (v := ?_) (a' := ?_) #[true, true, false, false, true, false, false, false, false, false, false, false, false, false, false, false, false, false, false, false] rfl rfl (by kernel_rfl) (fun _ _ _ h => h) (Or.inl ⟨by rfl, ?_⟩) ?_ ?_
        rotate_left
        · intro w'
          go_simp
          with_reducible rfl
        rotate_left
        · simp only [Act.put, List.setIfInBounds_toArray, List.set_cons_zero, List.set_cons_succ, i64_w, i32_w]
          rfl
        refine take_ (i := 5) (N := some 44) (v := ?_) (a' := ?_) #[true, true, false, false, true, true, false, false, false, false, false, false, false, false, false, false, false, false, false, false] rfl rfl (by kernel_rfl) (fun _ _ _ h => h) (Or.inl ⟨by rfl, ?_⟩) hHeld ?_ ?_
        rotate_left
        · rintro w' hS
          have q_d26 := bcellT hS d26
          have q_d27 := bcellT hS d27
          go_simp
          with_reducible rfl
        rotate_left
        · simp only [Act.put, List.setIfInBounds_toArray, List.set_cons_zero, List.set_cons_succ, i64_w, i32_w]
          rfl
        refine pure_ (i := 6) (N := some 45) (v := ?_) (a' := ?_) #[true, true, false, false, true, true, true, false, false, false, false, false, false, false, false, false, false, false, false, false] rfl rfl (by kernel_rfl) (fun _ _ _ h => h) (Or.inl ⟨by rfl, ?_⟩) ?_ ?_
        rotate_left
        · intro w'
          go_simp
          with_reducible rfl
        rotate_left
        · simp only [Act.put, List.setIfInBounds_toArray, List.set_cons_zero, List.set_cons_succ, i64_w, i32_w]
          rfl
        refine pure_ (i := 10) (N := some 49) (v := ?_) (a' := ?_) #[true, true, false, false, true, true, true, false, false, false, true, false, false, false, false, false, false, false, false, false] rfl rfl (by kernel_rfl) (fun _ _ _ h => h) (Or.inl ⟨by rfl, ?_⟩) ?_ ?_
        rotate_left
        · intro w'
          go_simp
          with_reducible rfl
        rotate_left
        · simp only [Act.put, List.setIfInBounds_toArray, List.set_cons_zero, List.set_cons_succ, i64_w, i32_w]
          rfl
        refine take_ (i := 11) (N := some 50) (v := ?_) (a' := ?_) #[true, true, false, false, true, true, true, false, false, false, true, true, false, false, false, false, false, false, false, false] rfl rfl (by kernel_rfl) (fun _ _ _ h => h) (Or.inl ⟨by rfl, ?_⟩) hHeld ?_ ?_
        rotate_left
        · rintro w' hS
          have q_d26 := bcellT hS d26
          have q_d27 := bcellT hS d27
          go_simp
          with_reducible rfl
        rotate_left
        · simp only [Act.put, List.setIfInBounds_toArray, List.set_cons_zero, List.set_cons_succ, i64_w, i32_w]
          rfl
        refine pure_ (i := 12) (N := some 51) (v := ?_) (a' := ?_) #[true, true, false, false, true, true, true, false, false, false, true, true, true, false, false, false, false, false, false, false] rfl rfl (by kernel_rfl) (fun _ _ _ h => h) (Or.inl ⟨by rfl, ?_⟩) ?_ ?_
        rotate_left
        · intro w'
          go_simp
          with_reducible rfl
        rotate_left
        · simp only [Act.put, List.setIfInBounds_toArray, List.set_cons_zero, List.set_cons_succ, i64_w, i32_w]
          rfl
        refine pure_ (i := 16) (N := some 55) (v := ?_) (a' := ?_) #[true, true, false, false, true, true, true, false, false, false, true, true, true, false, false, false, true, false, false, false] rfl rfl (by kernel_rfl) (fun _ _ _ h => h) (Or.inl ⟨by rfl, ?_⟩) ?_ ?_
        rotate_left
        · intro w'
          go_simp
          with_reducible rfl
        rotate_left
        · simp only [Act.put, List.setIfInBounds_toArray, List.set_cons_zero, List.set_cons_succ, i64_w, i32_w]
          rfl
        refine one_ (i := 2) (N := some 41) #[true, true, true, false, true, true, true, false, false, false, true, true, true, false, false, false, true, false, false, false] rfl rfl (by kernel_rfl) (by decide) (fun K hK => ?_)
        refine goes_ Tryz.func35 (by kernel_rfl) rfl #[.slice (some ⟨w.heap.size, 0, none⟩) 26 26] (by rfl) rfl rfl (by (try simp only [List.map_toArray, List.map_cons, List.map_nil]); first | done | rfl | (simp only [List.length_drop, List.length_take]; rfl)) ?_
        with_reducible refine (HJW.out _ (HGQ.out.step hHeld) ((hHeld.block _ (blk_lt KQ.out)).trans KQ.out)).mono ?_
        rintro e wz ⟨rfl, hb⟩
        refine ⟨_, rfl, ?_⟩
        have hS_ := below_step hHeld hb
        clear hb hHeld
        refine hK.out _ _ hS_ (fun hHeld => ?_)
        clear hK K hS_
        refine norm_ (a' := ?_) ?_ ?_
        rotate_left
        · show Act.put _ (some 41) _ = _
          simp only [Act.put, List.setIfInBounds_toArray, List.set_cons_zero, List.set_cons_succ, i64_w, i32_w]
          rfl
        refine pure_ (i := 3) (N := some 42) (v := ?_) (a' := ?_) #[true, true, true, true, true, true, true, false, false, false, true, true, true, false, false, false, true, false, false, false] rfl rfl (by kernel_rfl) (fun _ _ _ h => h) (Or.inl ⟨by rfl, ?_⟩) ?_ ?_
        rotate_left
        · intro w'
          go_simp
          with_reducible rfl
        rotate_left
        · simp only [Act.put, List.setIfInBounds_toArray, List.set_cons_zero, List.set_cons_succ, i64_w, i32_w]
          rfl
        refine one_ (i := 7) (N := some 46) #[true, true, true, true, true, true, true, true, false, false, true, true, true, false, false, false, true, false, false, false] rfl rfl (by kernel_rfl) (by decide) (fun K hK => ?_)
        refine goes_ Tryz.func34 (by kernel_rfl) rfl #[.int .i64 sp] (by rfl) rfl rfl (by (try simp only [List.map_toArray, List.map_cons, List.map_nil]); first | done | rfl | (simp only [List.length_drop, List.length_take]; rfl)) ?_
        with_reducible refine (HSW.out _ (HGQ.out.step hHeld)).mono ?_
        rintro e wz ⟨rfl, hb⟩
        refine ⟨_, rfl, ?_⟩
        have hS_ := below_step hHeld hb
        clear hb hHeld
        refine hK.out _ _ hS_ (fun hHeld => ?_)
        clear hK K hS_
        refine norm_ (a' := ?_) ?_ ?_
        rotate_left
        · show Act.put _ (some 46) _ = _
          simp only [Act.put, List.setIfInBounds_toArray, List.set_cons_zero, List.set_cons_succ, i64_w, i32_w]
          rfl
        refine pure_ (i := 8) (N := some 47) (v := ?_) (a' := ?_) #[true, true, true, true, true, true, true, true, true, false, true, true, true, false, false, false, true, false, false, false] rfl rfl (by kernel_rfl) (fun _ _ _ h => h) (Or.inl ⟨by rfl, ?_⟩) ?_ ?_
        rotate_left
        · intro w'
          go_simp
          with_reducible rfl
        rotate_left
        · simp only [Act.put, List.setIfInBounds_toArray, List.set_cons_zero, List.set_cons_succ, i64_w, i32_w]
          rfl
        refine pure_ (i := 9) (N := some 48) (v := ?_) (a' := ?_) #[true, true, true, true, true, true, true, true, true, true, true, true, true, false, false, false, true, false, false, false] rfl rfl (by kernel_rfl) (fun _ _ _ h => h) (Or.inl ⟨by rfl, ?_⟩) ?_ ?_
        rotate_left
        · intro w'
          go_simp
          with_reducible rfl
        rotate_left
        · simp only [Act.put, List.setIfInBounds_toArray, List.set_cons_zero, List.set_cons_succ, i64_w, i32_w]
          rfl
        refine one_ (i := 13) (N := some 52) #[true, true, true, true, true, true, true, true, true, true, true, true, true, true, false, false, true, false, false, false] rfl rfl (by kernel_rfl) (by decide) (fun K hK => ?_)
        refine goes_ Tryz.func34 (by kernel_rfl) rfl #[.int .i64 gp] (by rfl) rfl rfl (by (try simp only [List.map_toArray, List.map_cons, List.map_nil]); first | done | rfl | (simp only [List.length_drop, List.length_take]; rfl)) ?_
        with_reducible refine (HGW.out _ (HGQ.out.step hHeld)).mono ?_
        rintro e wz ⟨rfl, hb⟩
        refine ⟨_, rfl, ?_⟩
        have hS_ := below_step hHeld hb
        clear hb hHeld
        refine hK.out _ _ hS_ (fun hHeld => ?_)
        clear hK K hS_
        refine norm_ (a' := ?_) ?_ ?_
        rotate_left
        · show Act.put _ (some 52) _ = _
          simp only [Act.put, List.setIfInBounds_toArray, List.set_cons_zero, List.set_cons_succ, i64_w, i32_w]
          rfl
        refine pure_ (i := 14) (N := some 53) (v := ?_) (a' := ?_) #[true, true, true, true, true, true, true, true, true, true, true, true, true, true, true, false, true, false, false, false] rfl rfl (by kernel_rfl) (fun _ _ _ h => h) (Or.inl ⟨by rfl, ?_⟩) ?_ ?_
        rotate_left
        · intro w'
          go_simp
          with_reducible rfl
        rotate_left
        · simp only [Act.put, List.setIfInBounds_toArray, List.set_cons_zero, List.set_cons_succ, i64_w, i32_w]
          rfl
        refine pure_ (i := 15) (N := some 54) (v := ?_) (a' := ?_) #[true, true, true, true, true, true, true, true, true, true, true, true, true, true, true, true, true, false, false, false] rfl rfl (by kernel_rfl) (fun _ _ _ h => h) (Or.inl ⟨by rfl, ?_⟩) ?_ ?_
        rotate_left
        · intro w'
          go_simp
          with_reducible rfl
        rotate_left
        · simp only [Act.put, List.setIfInBounds_toArray, List.set_cons_zero, List.set_cons_succ, i64_w, i32_w]
          rfl
        refine one_ (i := 17) (N := some 56) #[true, true, true, true, true, true, true, true, true, true, true, true, true, true, true, true, true, true, false, false] rfl rfl (by kernel_rfl) (by decide) (fun K hK => ?_)
        refine goes_ Tryz.func36 (by kernel_rfl) rfl #[.slice B rl.length d, .string ⟨#[32]⟩] (by rfl) rfl rfl (by (try simp only [List.map_toArray, List.map_cons, List.map_nil]); first | done | rfl | (simp only [List.length_drop, List.length_take]; rfl)) ?_
        with_reducible refine (HTW.out _ (Kd.R_reads' (Kd.R_below RQ.out hHeld)).2.2).mono ?_
        rintro e wz ⟨rfl, hb⟩
        refine ⟨_, rfl, ?_⟩
        have hS_ := below_step hHeld hb
        clear hb hHeld
        refine hK.out _ _ hS_ (fun hHeld => ?_)
        clear hK K hS_
        refine norm_ (a' := ?_) ?_ ?_
        rotate_left
        · show Act.put _ (some 56) _ = _
          simp only [Act.put, List.setIfInBounds_toArray, List.set_cons_zero, List.set_cons_succ, i64_w, i32_w]
          rfl
        refine pure_ (i := 18) (N := some 57) (v := ?_) (a' := ?_) #[true, true, true, true, true, true, true, true, true, true, true, true, true, true, true, true, true, true, true, false] rfl rfl (by kernel_rfl) (fun _ _ _ h => h) (Or.inl ⟨by rfl, ?_⟩) ?_ ?_
        rotate_left
        · intro w'
          go_simp
          with_reducible rfl
        rotate_left
        · simp only [Act.put, List.setIfInBounds_toArray, List.set_cons_zero, List.set_cons_succ, i64_w, i32_w]
          rfl
        refine pure_ (i := 19) (N := some 2) (v := ?_) (a' := ?_) #[true, true, true, true, true, true, true, true, true, true, true, true, true, true, true, true, true, true, true, true] rfl rfl (by kernel_rfl) (fun _ _ _ h => h) (Or.inl ⟨by rfl, ?_⟩) ?_ ?_
        rotate_left
        · intro w'
          go_simp
          with_reducible rfl
        rotate_left
        · simp only [Act.put, List.setIfInBounds_toArray, List.set_cons_zero, List.set_cons_succ, i64_w, i32_w]
          rfl
        refine done_ (by kernel_rfl) ?_
        have HW3 := Lib.hid (below_step HW2.out hHeld)
        clear hHeld d26 d27 HW2
        rw [PF.out]
        go_wp2
        go_ret
        exact ⟨rfl, HW3.out⟩
end Go.Proofs.YtimkkjkgbbfgbaaGreatDoor.Q
end
