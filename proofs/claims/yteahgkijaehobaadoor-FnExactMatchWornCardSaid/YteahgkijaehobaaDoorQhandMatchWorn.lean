/- impl.MatchWorn is walked. -/
import Derived.Test.YteahgkijaehobaaDoorQhandIndices
import Derived.Test.YteahgkijaehobaaDoorQhandValidList
import Derived.Test.YteahgkijaehobaaDoorQhandAgree
import Derived.Test.YteahgkijaehobaaDoorQpureWorn
import Derived.Deep.RegionWith
namespace Go.Proofs.YteahgkijaehobaaDoor.Q
open Go.RowKit Go.Proofs.YteahgkijaehobaaDoorW.PrintWords Go.Proofs.YteahgkijaehobaaDoorW.PrintLast Go.Proofs.YteahgkijaehobaaDoorW.PrintMore
set_option linter.unusedVariables false

/-- A word of the list that agrees with a worn one. -/
def agreesB (a b : ByteArray) : Bool := (agreeM a b).2
def matchM (a : ByteArray) (l : List ByteArray) : List Int × Int :=
  if listB l = true then (if wornB a = true then (selL (fun i => agreesB a (rdOf ByteArray.empty l (i : Nat))) l.length, 0) else ([], 5)) else ([], 1)
def impl_MatchWorn.f (a : ByteArray) (l : List ByteArray) : Option (List Int × Int) := if a.size ≤ 9223372036854775807 then some (matchM a l) else none

set_option maxHeartbeats 1000000 in
theorem impl_MatchWorn_1.calls (a : ByteArray) (ha : a.size ≤ 9223372036854775807) (l : List ByteArray) (A : Option Addr) (c : Nat) (i g g2 : Nat) (hi : i < l.length) (w : World) (hx : w.cell? ⟨g, 0, none⟩ = some (.string a)) (hy : w.cell? ⟨g2, 0, none⟩ = some (.slice A l.length c))
    (hr : Kd.C Kd.string w A l.length l) :
    Calls Tryd.prog 79 #[.int .i64 i, .pointer (some ⟨g, 0, none⟩), .pointer (some ⟨g2, 0, none⟩)] w fun e w' => e = .returned (.bool (agreesB a (rdOf ByteArray.empty l (i : Nat)))) ∧ Below w.heap.size w w' := by
  obtain ⟨ad, rfl, hz⟩ := Kd.at_string hr i (by omega) (by omega)
  simp only [Int.toNat_natCast] at hz
  have hm := Kd.C_max hr
  clear hr
  have hcall := fun W => impl_agree.calls a (rdOf ByteArray.empty l (i : Nat)) (agreeM a (rdOf ByteArray.empty l (i : Nat))).1 (agreeM a (rdOf ByteArray.empty l (i : Nat))).2 W (by unfold impl_agree.f; rw [if_pos ha])
  unfold agreesB
  generalize agreeM a (rdOf ByteArray.empty l (i : Nat)) = q at hcall ⊢
  have hi2 : (i : Int) < (l.length : Int) := by omega
  go_enter Tryd.func79, Tryd.ntmps79
  go_wp2
  go_region_with (refine (hcall _).mono ?_; rintro e w' ⟨rfl, hb⟩)
  all_goals
    go_wp2
    go_ret
    exact ⟨rfl, below_step (w := w) (below_drew1 (Below.refl _ w)) hb⟩

theorem one_box {w w1 : World} {x : Value} {t : Nat} (hb : Below (w.alloc (.cells #[x] t)).heap.size (w.alloc (.cells #[x] t)) w1) :
    w1.cell? ⟨w.heap.size, 0, none⟩ = some x ∧ w.heap.size < w1.heap.size := by
  have h1 := hb.size
  have e : (w.alloc (.cells #[x] t)).heap.size = w.heap.size + 1 := by simp
  refine ⟨?_, by omega⟩
  rw [hb.cell (by show w.heap.size < _; omega)]
  exact World.cell?_alloc_mark w #[x] t (0, 0) 0
theorem two_boxes {w w1 : World} {x y : Value} {t u : Nat} (hb : Below ((w.alloc (.cells #[x] t)).alloc (.cells #[y] u)).heap.size ((w.alloc (.cells #[x] t)).alloc (.cells #[y] u)) w1) :
    w1.cell? ⟨w.heap.size, 0, none⟩ = some x ∧ w1.cell? ⟨w.heap.size + 1, 0, none⟩ = some y ∧ w.heap.size + 1 < w1.heap.size := by
  obtain ⟨h1, h2⟩ := one_box hb
  have e : (w.alloc (.cells #[x] t)).heap.size = w.heap.size + 1 := by simp
  rw [e] at h1 h2
  refine ⟨?_, h1, h2⟩
  have e2 : ((w.alloc (.cells #[x] t)).alloc (.cells #[y] u)).heap.size = w.heap.size + 2 := by simp
  rw [hb.cell (by show w.heap.size < _; omega)]
  exact Lib.cell?_alloc_some _ (World.cell?_alloc_mark w #[x] t (0, 0) 0)

set_option maxHeartbeats 2000000 in
theorem impl_MatchWorn.calls (a0 : ByteArray) (A1 : Option Addr) (c1 : Nat) (l1 : List ByteArray) (r1 : List Int) (r2 : Int) (w : World) (hG_ : Glob w) (hr1 : Kd.C Kd.string w A1 l1.length l1) (hc1 : l1.length ≤ c1) (h : impl_MatchWorn.f a0 l1 = some (r1, r2)) :
    Calls Tryd.prog 35 #[.string a0, .slice A1 l1.length c1] w fun e w' => ∃ v0_ : Value, e = .returned (.tuple #[v0_, .int .i64 r2]) ∧ Kd.R (Kd.int .i64) 2 w' w.heap.size (fun _ => True) v0_ r1 ∧ Below w.heap.size w w' := by
  unfold impl_MatchWorn.f at h
  by_cases ha : a0.size ≤ 9223372036854775807
  rotate_left
  · rw [if_neg ha] at h; cases h
  rw [if_pos ha] at h
  replace h := Option.some.inj h
  unfold matchM at h
  have hm := Kd.C_max hr1
  have HR := Lib.hid hr1
  have HG := Lib.hid hG_
  clear hr1 hG_
  have hb0 : ∀ cs1 cs2, Below w.heap.size w ((w.alloc (.cells cs1 9)).alloc (.cells cs2 23)) := fun cs1 cs2 => below_alloc (below_alloc (Below.refl _ w) _) _
  have HB0 := Lib.hid hb0
  clear hb0
  have hlist := fun W (hW : Below w.heap.size w W) => impl_ValidList.calls A1 c1 l1 (listB l1) W (HG.out.step hW) (Kd.C_below HR.out hW) hc1 rfl
  have hworn := fun W => impl_isWorn.calls (a0.size + 1) a0 (wornB a0) W (impl_isWorn.val a0 ha)
  cases hs : listB l1 with
  | false =>
    rw [hs] at hlist h
    simp only [Bool.false_eq_true, if_false, Prod.mk.injEq] at h
    obtain ⟨rfl, rfl⟩ := h
    go_enter Tryd.func35, Tryd.ntmps35
    go_wp2_with (refine (hlist _ (HB0.out _ _)).mono ?_; rintro e w' ⟨rfl, hb⟩)
    go_ret2
    exact ⟨_, rfl, Kd.R_nil _ _ _ _ _, below_step (HB0.out _ _) hb⟩
  | true =>
    rw [hs] at hlist h
    simp only [if_true] at h
    have HL := Lib.hid hlist
    clear hlist
    cases hw : wornB a0 with
    | false =>
      rw [hw] at hworn h
      simp only [Bool.false_eq_true, if_false, Prod.mk.injEq] at h
      obtain ⟨rfl, rfl⟩ := h
      clear hw hs
      go_enter Tryd.func35, Tryd.ntmps35
      go_wp2_with (first | (refine (HL.out _ (HB0.out _ _)).mono ?_; rintro e w1 ⟨rfl, hb⟩; obtain ⟨hx1, hx2, hx3⟩ := two_boxes hb; have HBW := Lib.hid (below_step (HB0.out _ _) hb); clear hb hx3) | (refine (hworn _).mono ?_; rintro e w2 ⟨rfl, nd, rfl⟩))
      go_ret2
      exact ⟨_, rfl, Kd.R_nil _ _ _ _ _, pw_below_drewN HBW.out _⟩
    | true =>
      rw [hw] at hworn h
      simp only [if_true, Prod.mk.injEq] at h
      obtain ⟨rfl, rfl⟩ := h
      clear hw
      have hlen : l1.length ≤ 1000000 := by
        unfold listB at hs
        simp only [Bool.and_eq_true, decide_eq_true_iff] at hs
        omega
      clear hs
      have hind := fun (W : World) (hW : Below w.heap.size w W) (h3 : w.heap.size + 1 < W.heap.size) (h1 : W.cell? ⟨w.heap.size, 0, none⟩ = some (.string a0)) (h2 : W.cell? ⟨w.heap.size + 1, 0, none⟩ = some (.slice A1 l1.length c1)) =>
        impl_indices.calls 79 #[.pointer (some ⟨w.heap.size, 0, none⟩), .pointer (some ⟨w.heap.size + 1, 0, none⟩)] (fun i => agreesB a0 (rdOf ByteArray.empty l1 (i : Nat))) l1.length W (enters_of Tryd.func79 (by kernel_rfl) rfl) hlen
          (fun i hi V hV => impl_MatchWorn_1.calls a0 ha l1 A1 c1 i w.heap.size (w.heap.size + 1) hi V (by rw [hV.cell (by show w.heap.size < _; omega)]; exact h1) (by rw [hV.cell (by show w.heap.size + 1 < _; omega)]; exact h2) (Kd.C_below HR.out (below_step hW hV)))
      have HI := Lib.hid hind
      clear hind
      go_enter Tryd.func35, Tryd.ntmps35
      go_wp2_with (first | (refine (HL.out _ (HB0.out _ _)).mono ?_; rintro e w1 ⟨rfl, hb⟩; obtain ⟨hx1, hx2, hx3⟩ := two_boxes hb; have HBW := Lib.hid (below_step (HB0.out _ _) hb); have HX3 := Lib.hid hx3; clear hb hx3) | (refine (hworn _).mono ?_; rintro e w2 ⟨rfl, nd, rfl⟩) | (refine (HI.out _ (pw_below_drewN HBW.out _) HX3.out hx1 hx2).mono ?_; rintro e w3 ⟨v, rfl, ho, hb⟩; have HO := Lib.hid ho; have HB3 := Lib.hid hb; clear ho hb))
      go_ret2
      exact ⟨_, rfl, Kd.R_lower HO.out HBW.out.size, below_step (pw_below_drewN HBW.out _) HB3.out⟩
end Go.Proofs.YteahgkijaehobaaDoor.Q
