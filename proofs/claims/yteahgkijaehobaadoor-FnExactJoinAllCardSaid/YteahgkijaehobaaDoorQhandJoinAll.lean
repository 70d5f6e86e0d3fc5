/- impl.JoinAll is walked. -/
import Derived.Test.YteahgkijaehobaaDoorQpureJoin
import Derived.Test.YteahgkijaehobaaDoorQPieceH
import Derived.Test.YteahgkijaehobaaDoorQText
import Derived.Test.YteahgkijaehobaaDoorQhandFuncPiece
import Derived.Deep.RegionWith
namespace Go.Proofs.YteahgkijaehobaaDoor.Q
open Go.RowKit Go.Proofs.YteahgkijaehobaaDoorW.PrintWords Go.Proofs.YteahgkijaehobaaDoorW.PrintLast Go.Proofs.YteahgkijaehobaaDoorW.PrintMore
set_option linter.unusedVariables false

def impl_JoinAll.f (l0 : List GP) (l1 : List Int) : Option (ByteArray × Int) := if l1.length ≤ 1000000000 then some (joinAllM l0 l1) else none

set_option maxHeartbeats 1000000 in
/-- The closure: the number of no piece; the list lies in block g. -/
theorem impl_JoinAll_1.calls (A0 : Option Addr) (c0 : Nat) (l0 : List GP) (i : Int) (g : Nat) (w : World) (hx : w.cell? ⟨g, 0, none⟩ = some (.slice A0 l0.length c0)) (hr : Kd.C k69 w A0 l0.length l0) (hc : l0.length ≤ c0) :
    Calls Tryd.prog 72 #[.int .i64 i, .pointer (some ⟨g, 0, none⟩)] w fun e w' => e = .returned (.bool (!numB l0 i)) ∧ Below w.heap.size w w' := by
  have hm := Kd.C_max hr
  have hsz := impl_size_impl_Piece.calls A0 c0 l0 (l0.length : Int) w hr hc rfl
  have hin := fun W => impl_within.calls i 0 ((l0.length : Int) - 1) (numB l0 i) W (by unfold impl_within.f numB; by_cases h : 0 ≤ i <;> simp [h])
  have HSZ := Lib.hid hsz
  clear hr hsz
  generalize numB l0 i = q at hin ⊢
  go_enter Tryd.func72, Tryd.ntmps72
  go_wp2_with (first | (refine HSZ.out.mono ?_; rintro e w' ⟨rfl, nd, rfl⟩) | (refine (hin _).mono ?_; rintro e w' ⟨rfl, nd2, rfl⟩))
  go_ret
  exact ⟨rfl, pw_below_drewN (Below.refl _ _) _⟩

theorem any_not2 {α : Type} (l : List α) (p : α → Bool) : (l.any fun x => !p x) = !l.all p := by
  rw [← List.not_all_eq_any_not]
theorem one_box' {w w1 : World} {x : Value} {t : Nat} (hb : Below (w.alloc (.cells #[x] t)).heap.size (w.alloc (.cells #[x] t)) w1) :
    w1.cell? ⟨w.heap.size, 0, none⟩ = some x ∧ w.heap.size < w1.heap.size := by
  have h1 := hb.size
  have e : (w.alloc (.cells #[x] t)).heap.size = w.heap.size + 1 := by simp
  refine ⟨?_, by omega⟩
  rw [hb.cell (by show w.heap.size < _; omega)]
  exact World.cell?_alloc_mark w #[x] t (0, 0) 0

set_option maxHeartbeats 4000000 in
theorem impl_JoinAll.calls (A0 : Option Addr) (c0 : Nat) (l0 : List GP) (A1 : Option Addr) (c1 : Nat) (l1 : List Int) (r1 : ByteArray) (r2 : Int) (w : World) (hG_ : Glob w) (hr0 : Kd.C k69 w A0 l0.length l0) (hc0 : l0.length ≤ c0) (hr1 : Kd.C (Kd.int .i64) w A1 l1.length l1) (hc1 : l1.length ≤ c1) (h : impl_JoinAll.f l0 l1 = some (r1, r2)) :
    Calls Tryd.prog 33 #[.slice A0 l0.length c0, .slice A1 l1.length c1] w fun e w' => e = .returned (.tuple #[.string r1, .int .i64 r2]) ∧ Below w.heap.size w w' := by
  unfold impl_JoinAll.f at h
  by_cases hlen : l1.length ≤ 1000000000
  rotate_left
  · rw [if_neg hlen] at h; cases h
  rw [if_pos hlen] at h
  replace h := Option.some.inj h
  unfold joinAllM at h
  have hm1 := Kd.C_max hr1
  have hm0 := Kd.C_max hr0
  have HR0 := Lib.hid hr0
  have HR1 := Lib.hid hr1
  have HG := Lib.hid hG_
  clear hr0 hr1 hG_
  have HB0 := Lib.hid (fun cs => below_alloc (Below.refl _ w) (.cells cs 38))
  have HV := Lib.hid (fun cs => impl_ValidPieces.calls A0 c0 l0 (piecesB l0) (w.alloc (.cells cs 38)) (HG.out.step (HB0.out cs)) (Kd.C_below HR0.out (HB0.out cs)) hc0 rfl)
  cases hp : piecesB l0 with
  | false =>
    rw [hp] at HV h
    simp only [Bool.false_eq_true, if_false, Prod.mk.injEq] at h
    obtain ⟨rfl, rfl⟩ := h
    clear hp
    go_enter Tryd.func33, Tryd.ntmps33
    go_wp2_with (refine (HV.out _).mono ?_; rintro e w' ⟨rfl, hb⟩)
    go_ret2
    exact ⟨rfl, below_step (HB0.out _) hb⟩
  | true =>
    rw [hp] at HV h
    simp only [if_true] at h
    have HP := Lib.hid hp
    have hcf := fun (W : World) (hW : Below w.heap.size w W) (h3 : w.heap.size < W.heap.size) (hx : W.cell? ⟨w.heap.size, 0, none⟩ = some (.slice A0 l0.length c0)) =>
      contains_func_int64 72 #[.pointer (some ⟨w.heap.size, 0, none⟩)] (fun x => !numB l0 x) l1 A1 c1 W (enters_of Tryd.func72 (by kernel_rfl) rfl) (Kd.C_below HR1.out hW)
      (fun x _ V hV => (impl_JoinAll_1.calls A0 c0 l0 x w.heap.size V (by rw [hV.cell (by show w.heap.size < _; exact h3)]; exact hx) (Kd.C_below HR0.out (below_step hW hV)) hc0).mono fun e w' ⟨he, hb⟩ => ⟨he, below_step hV hb⟩)
    rw [any_not2] at hcf
    cases ha : l1.all (numB l0) with
    | false =>
      rw [ha] at hcf h
      have HC := Lib.hid hcf
      simp only [Bool.false_eq_true, if_false, Prod.mk.injEq] at h
      obtain ⟨rfl, rfl⟩ := h
      clear hp ha hcf
      go_enter Tryd.func33, Tryd.ntmps33
      go_wp2_with (first | (refine (HV.out _).mono ?_; rintro e w' ⟨rfl, hb⟩; obtain ⟨hx, h3⟩ := one_box' hb; have HX := Lib.hid hx; have H3 := Lib.hid h3; have HB := Lib.hid (below_step (HB0.out _) hb); clear hb h3) | (refine (HC.out _ HB.out H3.out HX.out).mono ?_; rintro e w2 ⟨rfl, hb2⟩; have HB2 := Lib.hid (below_step HB.out hb2); clear hb2))
      go_ret2
      exact ⟨rfl, HB2.out⟩
    | true =>
      rw [ha] at hcf h
      have HC := Lib.hid hcf
      simp only [if_true] at h
      have H := Lib.hid h
      have HA := Lib.hid ha
      clear hp ha hcf h
      go_enter Tryd.func33, Tryd.ntmps33
      go_wp2_with (first | (refine (HV.out _).mono ?_; rintro e w' ⟨rfl, hb⟩; obtain ⟨hx, h3⟩ := one_box' hb; have HX := Lib.hid hx; have H3 := Lib.hid h3; have HB := Lib.hid (below_step (HB0.out _) hb); clear hb h3) | (refine (HC.out _ HB.out H3.out HX.out).mono ?_; rintro e w2 ⟨rfl, hb2⟩; have hy := (hb2.cell (p := ⟨w.heap.size, 0, none⟩) H3.out).trans HX.out; have HB2 := Lib.hid (below_step HB.out hb2); have H4 := Lib.hid (Nat.lt_of_lt_of_le H3.out hb2.size); clear hb2))
      go_loopw [18] (fun i wr => ∃ k : Nat, k ≤ l1.length ∧ i = .int .i64 k ∧ RowKit.Hid (Below w.heap.size w wr) ∧ wr.cell? ⟨w.heap.size, 0, none⟩ = some (.slice A0 l0.length c0) ∧ RowKit.Hid (w.heap.size < wr.heap.size) ∧ RowKit.Hid (orderFrom l0 l1 0 = orderFrom l0 l1 k)) (fun i _ => l1.length - (intOf i).toNat)
      case atStart => exact ⟨0, Nat.zero_le _, rfl, HB2, hy, H4, Lib.hid rfl⟩
      case round =>
        clear hx hy
        obtain ⟨k, hk, rfl, HW, hz, H5, HO⟩ := hrel
        by_cases hlt : k < l1.length
        · have hlt2 : (k : Int) < (l1.length : Int) := by omega
          obtain ⟨ad, rfl, hx⟩ := Kd.at_int (Kd.C_below HR1.out HW.out) k (by omega) (by omega)
          simp only [Int.toNat_natCast] at hx
          obtain ⟨iI, hiI, _, hszI, _⟩ := info_parts info2
          obtain ⟨hcut, hA, _⟩ := print_take_of (P := Tryd.prog) (Value.int .i64) 0 28 2 .i64 Tryd.underlying28 hiI hszI (some ad) c1 l1 (k : Int) (by omega) (by omega) hc1
          have elen : (l1.take k).length = k := by rw [List.length_take]; omega
          rw [Int.toNat_natCast, elen] at hcut
          have HA2 := Lib.hid hA
          have hnum := List.all_eq_true.1 HA.out _ (rd_mem l1 k hlt)
          have htk : (l1.take k).all (numB l0) = true := List.all_eq_true.2 fun x hx => List.all_eq_true.1 HA.out x (List.mem_of_mem_take hx)
          have hgo := fun (W : World) (hW : Below w.heap.size w W) => impl_goesOn.calls ((l1.take k).length + 1) A0 c0 l0 (some ad) c1 (l1.take k) (rd l1 k) (goesB l0 (l1.take k) (rd l1 k)) W (Kd.C_below HR0.out hW) hc0
            (Kd.C_of_reads (h1 := fun _ => rfl) (ReadsOf.len_ (by have := (Kd.reads_of_C (enc := Value.int .i64) (d := (0 : Int)) (h1 := fun _ => rfl) (Kd.C_below HR1.out hW)).take_ k hk; exact this))) (by omega) (impl_goesOn.val l0 (l1.take k) (rd l1 k) htk hnum (by omega))
          rw [elen] at hgo
          have hstep := orderFrom_step l0 l1 k hlt
          clear hnum htk hA hiI hszI elen
          cases hq : goesB l0 (l1.take k) (rd l1 k) with
          | true =>
            rw [hq] at hgo hstep
            rw [Bool.true_and] at hstep
            have HO2 := Lib.hid (HO.out.trans hstep)
            have HGO := Lib.hid hgo
            clear hq hgo hstep
            go_wp2
            go_region_with (refine (HGO.out _ (below_drew1 HW.out)).mono ?_; rintro e w3 ⟨rfl, hb3⟩)
            all_goals
              have HB3 := Lib.hid hb3
              clear hb3
              go_wp2
              go_roundw
              case measure => simp only [intOf]; omega
              case rel => exact ⟨k + 1, by omega, by go_num, Lib.hid (below_step (below_drew1 HW.out) HB3.out), (HB3.out.cell (p := ⟨w.heap.size, 0, none⟩) H5.out).trans hz, Lib.hid (Nat.lt_of_lt_of_le H5.out HB3.out.size), HO2⟩
          | false =>
            rw [hq] at hgo hstep
            rw [Bool.false_and] at hstep
            have h := H.out
            rw [HO.out, hstep] at h
            simp only [Bool.false_eq_true, if_false, Prod.mk.injEq] at h
            obtain ⟨rfl, rfl⟩ := h
            have HGO := Lib.hid hgo
            clear hq hgo hstep
            go_wp2
            go_region_with (refine (HGO.out _ (below_drew1 HW.out)).mono ?_; rintro e w3 ⟨rfl, hb3⟩)
            all_goals
              have HB3 := Lib.hid hb3
              clear hb3
              go_wp2
              go_ret2
              exact ⟨rfl, below_step (below_drew1 HW.out) HB3.out⟩
        · have hlt2 : ¬ (k : Int) < (l1.length : Int) := by omega
          have E : k = l1.length := by omega
          have h := H.out
          rw [HO.out, E, orderFrom_end] at h
          simp only [if_true, Prod.mk.injEq] at h
          obtain ⟨rfl, rfl⟩ := h
          clear E
          have hrow := impl_rowText.calls (l1.length + 1) A0 c0 l0 A1 c1 l1 (textTo l0 l1 l1.length) wr (Kd.C_below HR0.out HW.out) hc0 (Kd.C_below HR1.out HW.out) hc1 (impl_rowText.val l0 l1 HP.out HA.out hlen)
          go_wp2_with (refine hrow.mono ?_; rintro e w4 ⟨rfl, nd, rfl⟩)
          go_ret2
          exact ⟨rfl, pw_below_drewN HW.out _⟩
end Go.Proofs.YteahgkijaehobaaDoor.Q
