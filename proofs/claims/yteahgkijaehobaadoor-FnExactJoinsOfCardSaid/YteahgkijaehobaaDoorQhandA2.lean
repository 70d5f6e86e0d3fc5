/- Rows of pairs of numbers: laws.eqInt64A2S where both sides are alike, laws.markInt64A2S, laws.heldInt64A2S, by hand. -/
import Derived.Test.YteahgkijaehobaaDoorQ0
import Derived.Test.YteahgkijaehobaaDoorBase
import Derived.Outline
import Derived.Lib.Hide
import Derived.BigRegion
import Derived.Deep.RegionWith
import Derived.Lib.SliceRun
namespace Go.Proofs.YteahgkijaehobaaDoor.Q
open Go.RowKit Go.Proofs.YteahgkijaehobaaDoorW.PrintWords Go.Proofs.YteahgkijaehobaaDoorW.PrintLast Go.Proofs.YteahgkijaehobaaDoorW.PrintMore
open Go.Proofs.YteahgkijaehobaaDoor.Pure Go.Proofs.YteahgkijaehobaaDoor.Bytes
set_option linter.unusedVariables false

/-- Block g has n pairs, and its first m numbers are 1, 2, .. -/
def MRow (w : World) (g n m : Nat) : Prop :=
  ∃ cs : Array Value, w.heap[g]? = some (.cells cs 83 (0, 0)) ∧ n * 2 ≤ cs.size ∧ ∀ j, j < m → cs[j]? = some (.int .i64 ((j + 1 : Nat) : Int))
theorem MRow.some_ {w : World} {g n m : Nat} (h : MRow w g n m) (j : Nat) (hj : j < n * 2) : ∃ v, w.cell? ⟨g, j, none⟩ = some v := by
  obtain ⟨cs, hc, hs, _⟩ := h
  rw [cell_of_row w g j cs _ _ hc]
  exact ⟨_, Array.getElem?_eq_getElem (by omega)⟩
theorem MRow.frozen {w : World} {g n m : Nat} (h : MRow w g n m) (j : Nat) : w.frozen? ⟨g, j, none⟩ = false := by
  obtain ⟨cs, hc, hs, _⟩ := h
  simp [World.frozen?, hc]
theorem MRow.cell {w : World} {g n m : Nat} (h : MRow w g n m) (j : Nat) (hj : j < m) : w.cell? ⟨g, j, none⟩ = some (.int .i64 ((j + 1 : Nat) : Int)) := by
  obtain ⟨cs, hc, hs, hx⟩ := h
  rw [cell_of_row w g j cs _ _ hc]
  exact hx j hj
theorem MRow.set {w : World} {g n m : Nat} (h : MRow w g n m) (hm : m < n * 2) : MRow (w.setCell ⟨g, m, none⟩ (.int .i64 ((m + 1 : Nat) : Int))) g n (m + 1) := by
  obtain ⟨cs, hc, hs, hx⟩ := h
  refine ⟨cs.setIfInBounds m (.int .i64 ((m + 1 : Nat) : Int)), ?_, by simpa using hs, fun j hj => ?_⟩
  · simp [World.setCell, Array.getElem?_modify, hc]
  · by_cases e : j = m
    · subst e
      simp [show j < cs.size by omega]
    · rw [Array.getElem?_setIfInBounds_ne (Ne.symm e)]
      exact hx j (by omega)
theorem MRow.same {w w1 : World} {g n m : Nat} (h : MRow w g n m) (hb : w1.heap[g]? = w.heap[g]?) : MRow w1 g n m := by
  obtain ⟨cs, hc, hs, hx⟩ := h
  exact ⟨cs, hb.trans hc, hs, hx⟩
theorem MRow.lt {w : World} {g n m : Nat} (h : MRow w g n m) : g < w.heap.size := by
  obtain ⟨cs, hc, _⟩ := h
  exact (Array.getElem?_eq_some_iff.1 hc).1

set_option maxHeartbeats 2000000 in
theorem laws_markInt64A2S.calls (A : Option Addr) (n c g : Nat) (w : World) (hn : n ≤ 1000000) (hA : 0 < n → A = some ⟨g, 0, none⟩ ∧ MRow w g n 0) :
    Calls Tryd.prog 45 #[.slice A n c, .int .i64 1] w fun e w' => e = .returned (.int .i64 ((n * 2 + 1 : Nat) : Int)) ∧ (0 < n → MRow w' g n (n * 2)) ∧ OnlyAt g w w' := by
  go_enter Tryd.func45, Tryd.ntmps45
  go_wp2
  have HA := Lib.hid hA
  clear hA
  go_loopw [1, 5] (fun m i wr => ∃ k : Nat, k ≤ n ∧ i = .int .i64 k ∧ m = .int .i64 ((k * 2 + 1 : Nat) : Int) ∧ RowKit.Hid (0 < n → MRow wr g n (k * 2)) ∧ RowKit.Hid (OnlyAt g w wr)) (fun _ i _ => n - (intOf i).toNat)
  case atStart => exact ⟨0, Nat.zero_le _, rfl, rfl, Lib.hid fun h => (HA.out h).2, Lib.hid (OnlyAt.refl _ _)⟩
  case round =>
    obtain ⟨k, hk, rfl, rfl, HM, HO⟩ := hrel
    by_cases hlt : k < n
    · have hlt2 : (k : Int) < (n : Int) := by omega
      obtain ⟨rfl, _⟩ := HA.out (by omega)
      go_wp2
      go_loopw [1, 6] (fun m i wr => ∃ j : Nat, j ≤ 2 ∧ i = .int .i64 j ∧ m = .int .i64 ((k * 2 + j + 1 : Nat) : Int) ∧ RowKit.Hid (MRow wr g n (k * 2 + j)) ∧ RowKit.Hid (OnlyAt g w wr)) (fun _ i _ => 2 - (intOf i).toNat)
      case atStart => exact ⟨0, Nat.zero_le _, rfl, rfl, Lib.hid (HM.out (by omega)), HO⟩
      case round =>
        obtain ⟨j, hj, rfl, rfl, HJ, HO2⟩ := hrel
        by_cases hj2 : j < 2
        · have hj3 : (j : Int) < 2 := by omega
          obtain ⟨v, hv⟩ := HJ.out.some_ (k * 2 + j) (by omega)
          have hz := HJ.out.frozen (k * 2 + j)
          have HMS := Lib.hid (HJ.out.set (by omega))
          go_wp2
          go_roundw
          case measure => simp only [intOf]; omega
          case rel => exact ⟨j + 1, by omega, by go_num, by go_num, Lib.hid (by have := HMS.out; rw [show ((k * 2 + j + 1 : Nat) : Int) = (k : Int) * 2 + j + 1 by omega] at this; exact this), Lib.hid (HO2.out.set _ _)⟩
        · have hj3 : ¬ (j : Int) < 2 := by omega
          have E : j = 2 := by omega
          have HJ2 := Lib.hid (E ▸ HJ.out)
          go_wp2
          go_roundw
          case measure => simp only [intOf]; omega
          case rel => exact ⟨k + 1, by omega, by go_num, by rw [E]; go_num, Lib.hid fun _ => by rw [show (k + 1) * 2 = k * 2 + 2 by omega]; exact HJ2.out, HO2⟩
    · have hlt2 : ¬ (k : Int) < (n : Int) := by omega
      have E : k = n := by omega
      subst E
      go_wp2
      go_ret
      exact ⟨rfl, HM.out, HO.out⟩

set_option maxHeartbeats 2000000 in
theorem laws_heldInt64A2S.calls (A : Option Addr) (n c g : Nat) (w : World) (hn : n ≤ 1000000) (hA : 0 < n → A = some ⟨g, 0, none⟩ ∧ MRow w g n (n * 2)) :
    Calls Tryd.prog 46 #[.slice A n c, .int .i64 1] w fun e w' => e = .returned (.int .i64 ((n * 2 + 1 : Nat) : Int)) ∧ Below w.heap.size w w' := by
  go_enter Tryd.func46, Tryd.ntmps46
  go_wp2
  have HA := Lib.hid hA
  clear hA
  go_loopw [1, 5] (fun m i wr => ∃ k : Nat, k ≤ n ∧ i = .int .i64 k ∧ m = .int .i64 ((k * 2 + 1 : Nat) : Int) ∧ RowKit.Hid (Below w.heap.size w wr)) (fun _ i _ => n - (intOf i).toNat)
  case atStart => exact ⟨0, Nat.zero_le _, rfl, rfl, Lib.hid (Below.refl _ _)⟩
  case round =>
    obtain ⟨k, hk, rfl, rfl, HO⟩ := hrel
    by_cases hlt : k < n
    · have hlt2 : (k : Int) < (n : Int) := by omega
      obtain ⟨rfl, HM0⟩ := HA.out (by omega)
      have HM := Lib.hid HM0
      clear HM0
      go_wp2
      go_loopw [1, 6] (fun m i wr => ∃ j : Nat, j ≤ 2 ∧ i = .int .i64 j ∧ m = .int .i64 ((k * 2 + j + 1 : Nat) : Int) ∧ RowKit.Hid (Below w.heap.size w wr)) (fun _ i _ => 2 - (intOf i).toNat)
      case atStart => exact ⟨0, Nat.zero_le _, rfl, rfl, HO⟩
      case round =>
        obtain ⟨j, hj, rfl, rfl, HO2⟩ := hrel
        by_cases hj2 : j < 2
        · have hj3 : (j : Int) < 2 := by omega
          have HMr := Lib.hid (HM.out.same (HO2.out.block g HM.out.lt))
          have hv := HMr.out.cell (k * 2 + j) (by omega)
          rw [show ((k * 2 + j + 1 : Nat) : Int) = (k : Int) * 2 + j + 1 by omega] at hv
          go_wp2
          go_roundw
          case measure => simp only [intOf]; omega
          case rel => exact ⟨j + 1, by omega, by go_num, by go_num, HO2⟩
        · have hj3 : ¬ (j : Int) < 2 := by omega
          have E : j = 2 := by omega
          go_wp2
          go_roundw
          case measure => simp only [intOf]; omega
          case rel => exact ⟨k + 1, by omega, by go_num, by rw [E]; go_num, HO2⟩
    · have hlt2 : ¬ (k : Int) < (n : Int) := by omega
      have E : k = n := by omega
      subst E
      go_wp2
      go_ret
      exact ⟨rfl, HO.out⟩

set_option maxHeartbeats 2000000 in
/-- Two pairs that are alike. -/
theorem laws_eqInt64A2.calls (a b : Int) (w : World) :
    Calls Tryd.prog 87 #[.agg #[.int .i64 a, .int .i64 b], .agg #[.int .i64 a, .int .i64 b]] w fun e w' => e = .returned (.bool true) ∧ Below w.heap.size w w' := by
  go_enter Tryd.func87, Tryd.ntmps87
  go_wp2
  have hc1 : ∀ j, j < 2 → ((w.alloc (.cells #[.int .i64 a, .int .i64 b] 83)).alloc (.cells #[.int .i64 a, .int .i64 b] 83)).cell? ⟨w.heap.size, j, none⟩ = some (.int .i64 (if j = 0 then a else b)) := fun j hj =>
    Lib.cell?_alloc_some _ ((World.cell?_alloc_mark w #[.int .i64 a, .int .i64 b] 83 (0, 0) j).trans (by
      rcases Nat.lt_or_ge j 1 with h | h
      · obtain rfl : j = 0 := by omega
        rfl
      · obtain rfl : j = 1 := by omega
        rfl))
  have hc2 : ∀ j, j < 2 → ((w.alloc (.cells #[.int .i64 a, .int .i64 b] 83)).alloc (.cells #[.int .i64 a, .int .i64 b] 83)).cell? ⟨w.heap.size + 1, j, none⟩ = some (.int .i64 (if j = 0 then a else b)) := fun j hj => by
    have := World.cell?_alloc_mark (w.alloc (.cells #[.int .i64 a, .int .i64 b] 83)) #[.int .i64 a, .int .i64 b] 83 (0, 0) j
    rw [show (w.alloc (.cells #[.int .i64 a, .int .i64 b] 83)).heap.size = w.heap.size + 1 by simp] at this
    refine this.trans ?_
    rcases Nat.lt_or_ge j 1 with h | h
    · obtain rfl : j = 0 := by omega
      rfl
    · obtain rfl : j = 1 := by omega
      rfl
  have H1 := Lib.hid hc1
  have H2 := Lib.hid hc2
  have HB := Lib.hid (below_alloc (below_alloc (Below.refl _ w) (.cells #[.int .i64 a, .int .i64 b] 83)) (.cells #[.int .i64 a, .int .i64 b] 83))
  clear hc1 hc2
  go_loopw [5] (fun i wr => ∃ k : Nat, k ≤ 2 ∧ i = .int .i64 k ∧ RowKit.Hid (∀ j, j < 2 → wr.cell? ⟨w.heap.size, j, none⟩ = some (.int .i64 (if j = 0 then a else b))) ∧ RowKit.Hid (∀ j, j < 2 → wr.cell? ⟨w.heap.size + 1, j, none⟩ = some (.int .i64 (if j = 0 then a else b))) ∧ RowKit.Hid (Below w.heap.size w wr)) (fun i _ => 2 - (intOf i).toNat)
  case atStart => exact ⟨0, Nat.zero_le _, rfl, H1, H2, HB⟩
  case round =>
    obtain ⟨k, hk, rfl, K1, K2, KB⟩ := hrel
    by_cases hlt : k < 2
    · have hlt2 : (k : Int) < 2 := by omega
      have hv1 := K1.out k hlt
      have hv2 := K2.out k hlt
      generalize (if k = 0 then a else b) = x at hv1 hv2
      have ht : (x != x) = false := by simp
      go_wp2
      go_region
      all_goals
        go_wp2
        go_roundw
        case measure => simp only [intOf]; omega
        case rel => exact ⟨k + 1, by omega, by go_num, Lib.hid (fun j hj => by first | exact K1.out j hj | (simpa using K1.out j hj)), Lib.hid (fun j hj => by first | exact K2.out j hj | (simpa using K2.out j hj)), Lib.hid (by first | exact KB.out | exact below_drew1 KB.out | exact pw_below_drewN KB.out _)⟩
    · have hlt2 : ¬ (k : Int) < 2 := by omega
      go_wp2
      go_ret
      exact ⟨rfl, KB.out⟩

theorem rdP_get (xs : List S83) (k : Nat) (h : k < xs.length) : rd_T83 xs (k : Int) = xs[k] := by
  unfold rd_T83
  simp [List.getD_eq_getElem?_getD, h]

set_option maxHeartbeats 2000000 in
/-- Two rows that read alike. -/
theorem laws_eqInt64A2S.calls (A0 A1 : Option Addr) (c0 c1 : Nat) (xs : List S83) (w : World) (hr0 : Kd.C k83 w A0 xs.length xs) (hr1 : Kd.C k83 w A1 xs.length xs) :
    Calls Tryd.prog 43 #[.slice A0 xs.length c0, .slice A1 xs.length c1] w fun e w' => e = .returned (.bool true) ∧ Below w.heap.size w w' := by
  have hm := Kd.C_max hr0
  have HR0 := Lib.hid hr0
  have HR1 := Lib.hid hr1
  clear hr0 hr1
  go_enter Tryd.func43, Tryd.ntmps43
  go_wp2
  go_loopw [5] (fun i wr => ∃ k : Nat, k ≤ xs.length ∧ i = .int .i64 k ∧ RowKit.Hid (Below w.heap.size w wr)) (fun i _ => xs.length - (intOf i).toNat)
  case atStart => exact ⟨0, Nat.zero_le _, rfl, Lib.hid (Below.refl _ _)⟩
  case round =>
    obtain ⟨k, hk, rfl, HW⟩ := hrel
    by_cases hlt : k < xs.length
    · have hlt2 : (k : Int) < (xs.length : Int) := by omega
      obtain ⟨ad0, rfl, hx0, hy0⟩ := at_T83 (Kd.C_below HR0.out HW.out) k (by omega) (by omega)
      obtain ⟨ad1, rfl, hx1, hy1⟩ := at_T83 (Kd.C_below HR1.out HW.out) k (by omega) (by omega)
      simp only [Int.toNat_natCast] at hx0 hy0 hx1 hy1
      have HE := Lib.hid (fun W => laws_eqInt64A2.calls (rd_T83 xs (k : Nat)).f0 (rd_T83 xs (k : Nat)).f1 W)
      go_wp2
      go_region_with (refine (HE.out _).mono ?_; rintro e w' ⟨rfl, hb⟩)
      all_goals
        have HB3 := Lib.hid (below_step (below_drew1 HW.out) hb)
        clear hb
        go_wp2
        go_roundw
        case measure => simp only [intOf]; omega
        case rel => exact ⟨k + 1, by omega, by go_num, HB3⟩
    · have hlt2 : ¬ (k : Int) < (xs.length : Int) := by omega
      go_wp2
      go_ret
      exact ⟨rfl, HW.out⟩
end Go.Proofs.YteahgkijaehobaaDoor.Q
