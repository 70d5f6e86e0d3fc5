/- impl.JoinsOf is walked. -/
import Derived.Test.YteahgkijaehobaaDoorQhandPairs
import Derived.Test.YteahgkijaehobaaDoorQpureJoin
import Derived.Test.YteahgkijaehobaaDoorQhandValidPieces
import Derived.Deep.RegionWith
namespace Go.Proofs.YteahgkijaehobaaDoor.Q
open Go.RowKit Go.Proofs.YteahgkijaehobaaDoorW.PrintWords Go.Proofs.YteahgkijaehobaaDoorW.PrintLast Go.Proofs.YteahgkijaehobaaDoorW.PrintMore
set_option linter.unusedVariables false

/-- Piece k joins piece i. -/
def jB (l : List GP) (i k : Nat) : Bool := !decide (i = k) && joinsB (rd_T69 l (i : Nat)) (rd_T69 l (k : Nat))
def joinsM (l : List GP) : List PR × Int := if piecesB l = true then (pairsP (jB l) l.length l.length, 0) else ([], 1)
def impl_JoinsOf.f (l : List GP) : Option (List PR × Int) := some (joinsM l)

set_option maxHeartbeats 2000000 in
theorem impl_JoinsOf_1.calls (l : List GP) (A : Option Addr) (c : Nat) (i k g : Nat) (hi : i < l.length) (hk : k < l.length) (w : World) (hx : w.cell? ⟨g, 0, none⟩ = some (.slice A l.length c)) (hr : Kd.C k69 w A l.length l) :
    Calls Tryd.prog 85 #[.int .i64 i, .int .i64 k, .pointer (some ⟨g, 0, none⟩)] w fun e w' => e = .returned (.bool (jB l i k)) ∧ Below w.heap.size w w' := by
  have hm := Kd.C_max hr
  unfold jB
  by_cases c1 : i = k
  · have c1d : ((i : Int) != (k : Int)) = false := by simp [c1]
    rw [decide_eq_true c1, Bool.not_true, Bool.false_and]
    clear hr hx c1
    go_enter Tryd.func85, Tryd.ntmps85
    go_wp2
    go_quiet (fail)
    go_wp2
    go_ret
    exact ⟨rfl, pw_below_drewN (Below.refl _ _) _⟩
  · have c1d : ((i : Int) != (k : Int)) = true := by simp; omega
    rw [decide_eq_false c1, Bool.not_false, Bool.true_and]
    obtain ⟨ad, rfl, hx0, hx1, hx2⟩ := at_T69 hr i (by omega) (by omega)
    obtain ⟨ad2, e2, hy0, hy1, hy2⟩ := at_T69 hr k (by omega) (by omega)
    cases e2
    simp only [Int.toNat_natCast] at hx0 hx1 hx2 hy0 hy1 hy2
    have HJ := Lib.hid (fun W => impl_CanJoin.calls (rd_T69 l (i : Nat)).f0 (rd_T69 l (i : Nat)).f1 (rd_T69 l (i : Nat)).f2 (rd_T69 l (k : Nat)).f0 (rd_T69 l (k : Nat)).f1 (rd_T69 l (k : Nat)).f2
      (joinsB (rd_T69 l (i : Nat)) (rd_T69 l (k : Nat))) W rfl)
    have hi2 : (i : Int) < (l.length : Int) := by omega
    have hk2 : (k : Int) < (l.length : Int) := by omega
    generalize joinsB (rd_T69 l (i : Nat)) (rd_T69 l (k : Nat)) = q at HJ ⊢
    clear hr c1
    go_enter Tryd.func85, Tryd.ntmps85
    go_wp2
    go_region_with (refine (HJ.out _).mono ?_; rintro e w' ⟨rfl, hb⟩)
    all_goals
      go_wp2
      go_ret
      exact ⟨rfl, below_step (w := w) (below_drew1 (Below.refl _ w)) hb⟩

theorem one_boxJ {w w1 : World} {x : Value} {t : Nat} (hb : Below (w.alloc (.cells #[x] t)).heap.size (w.alloc (.cells #[x] t)) w1) :
    w1.cell? ⟨w.heap.size, 0, none⟩ = some x ∧ w.heap.size < w1.heap.size := by
  have h1 := hb.size
  have e : (w.alloc (.cells #[x] t)).heap.size = w.heap.size + 1 := by simp
  refine ⟨?_, by omega⟩
  rw [hb.cell (by show w.heap.size < _; omega)]
  exact World.cell?_alloc_mark w #[x] t (0, 0) 0

set_option maxHeartbeats 2000000 in
theorem impl_JoinsOf.calls (A0 : Option Addr) (c0 : Nat) (l0 : List GP) (r1 : List PR) (r2 : Int) (w : World) (hG_ : Glob w) (hr0 : Kd.C k69 w A0 l0.length l0) (hc0 : l0.length ≤ c0) (h : impl_JoinsOf.f l0 = some (r1, r2)) :
    Calls Tryd.prog 42 #[.slice A0 l0.length c0] w fun e w' => ∃ v0_ : Value, e = .returned (.tuple #[v0_, .int .i64 r2]) ∧ Kd.R k83 83 w' w.heap.size (fun _ => True) v0_ r1 ∧ Below w.heap.size w w' := by
  replace h := Option.some.inj h
  unfold joinsM at h
  have hm := Kd.C_max hr0
  have HR := Lib.hid hr0
  have HG := Lib.hid hG_
  clear hr0 hG_
  have HB0 := Lib.hid (fun cs => below_alloc (Below.refl _ w) (.cells cs 38))
  have HL := Lib.hid (fun cs => impl_ValidPieces.calls A0 c0 l0 (piecesB l0) (w.alloc (.cells cs 38)) (HG.out.step (HB0.out cs)) (Kd.C_below HR.out (HB0.out cs)) hc0 rfl)
  cases hs : piecesB l0 with
  | false =>
    rw [hs] at HL h
    simp only [Bool.false_eq_true, if_false, Prod.mk.injEq] at h
    obtain ⟨rfl, rfl⟩ := h
    clear hs
    go_enter Tryd.func42, Tryd.ntmps42
    go_wp2_with (refine (HL.out _).mono ?_; rintro e w' ⟨rfl, hb⟩)
    go_ret2
    exact ⟨_, rfl, Kd.R_nil _ _ _ _ _, below_step (HB0.out _) hb⟩
  | true =>
    rw [hs] at HL h
    simp only [if_true, Prod.mk.injEq] at h
    obtain ⟨rfl, rfl⟩ := h
    obtain ⟨h8, _⟩ := pieces_small hs
    clear hs
    have HI := Lib.hid (fun (W : World) (hW : Below w.heap.size w W) (h3 : w.heap.size < W.heap.size) (h1 : W.cell? ⟨w.heap.size, 0, none⟩ = some (.slice A0 l0.length c0)) =>
      impl_pairsOf.calls 85 #[.pointer (some ⟨w.heap.size, 0, none⟩)] (jB l0) l0.length W (enters_of Tryd.func85 (by kernel_rfl) rfl) (by omega)
        (fun i hi k hk V hV => impl_JoinsOf_1.calls l0 A0 c0 i k w.heap.size hi hk V (by rw [hV.cell (by show w.heap.size < _; omega)]; exact h1) (Kd.C_below HR.out (below_step hW hV))))
    go_enter Tryd.func42, Tryd.ntmps42
    go_wp2_with (first | (refine (HL.out _).mono ?_; rintro e w1 ⟨rfl, hb⟩; obtain ⟨hx1, hx3⟩ := one_boxJ hb; have HBW := Lib.hid (below_step (HB0.out _) hb); have HX3 := Lib.hid hx3; have HX1 := Lib.hid hx1; clear hb hx3) | (refine (HI.out _ HBW.out HX3.out HX1.out).mono ?_; rintro e w3 ⟨v, rfl, ho, hb⟩; have HO := Lib.hid ho; have HB3 := Lib.hid hb; clear ho hb))
    go_ret2
    exact ⟨_, rfl, Kd.R_lower HO.out HBW.out.size, below_step HBW.out HB3.out⟩
end Go.Proofs.YteahgkijaehobaaDoor.Q
