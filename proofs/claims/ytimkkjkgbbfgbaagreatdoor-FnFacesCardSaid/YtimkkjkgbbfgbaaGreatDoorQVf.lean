-- Joined by joinmods.py out of: QhandShape QhandValidFace
import Derived.Test.YtimkkjkgbbfgbaaGreatDoorQhandIsFace
import Derived.Test.YtimkkjkgbbfgbaaGreatDoorQFc
section
/- spec.l01Shape, by hand: it answers whether a face behind a pointer is valid, but for the number of its pairs; and what stands on it. -/
namespace Go.Proofs.YtimkkjkgbbfgbaaGreatDoor.Q
open Go.RowKit Go.Proofs.YtimkkjkgbbfgbaaGreatDoorW.PrintWords Go.Proofs.YtimkkjkgbbfgbaaGreatDoorW.PrintLast Go.Proofs.YtimkkjkgbbfgbaaGreatDoorW.PrintMore
open Go.Proofs.YtimkkjkgbbfgbaaGreatDoor.Pure
set_option linter.unusedVariables false
set_option linter.unusedSimpArgs false

theorem spec_letter_is (a : Int) (b : Bool) (w : World) (h : letB a = b) : Calls Tryz.prog 45 #[.int .u8 a] w fun e w' => e = .returned (.bool b) ∧ w = w' := by
  subst h
  unfold letB
  by_cases h1 : 65 ≤ a
  · go_enter Tryz.func45, Tryz.ntmps45
    go_wp2
    go_ret
    exact ⟨by simp [h1], rfl⟩
  · go_enter Tryz.func45, Tryz.ntmps45
    go_wp2
    go_ret
    exact ⟨by simp; omega, rfl⟩
theorem spec_in_is (a lo hi : Int) (b : Bool) (w : World) (h : inB a lo hi = b) : Calls Tryz.prog 59 #[.int .i64 a, .int .i64 lo, .int .i64 hi] w fun e w' => e = .returned (.bool b) ∧ w = w' := by
  subst h
  unfold inB
  by_cases h1 : lo ≤ a
  · go_enter Tryz.func59, Tryz.ntmps59
    go_wp2
    go_ret
    exact ⟨by simp [h1], rfl⟩
  · go_enter Tryz.func59, Tryz.ntmps59
    go_wp2
    go_ret
    exact ⟨by simp; omega, rfl⟩
theorem spec_letter_q (a : Int) (b : Bool) (w : World) (h : letB a = b) : Calls Tryz.prog 45 #[.int .u8 a] w fun e w' => e = .returned (.bool b) ∧ w' = w := (spec_letter_is a b w h).mono fun _ _ h => ⟨h.1, h.2.symm⟩
theorem spec_in_q (a lo hi : Int) (b : Bool) (w : World) (h : inB a lo hi = b) : Calls Tryz.prog 59 #[.int .i64 a, .int .i64 lo, .int .i64 hi] w fun e w' => e = .returned (.bool b) ∧ w' = w := (spec_in_is a lo hi b w h).mono fun _ _ h => ⟨h.1, h.2.symm⟩
theorem spec_ahead_val (p q : S33) : spec_l01Ahead.f p.f0 p.f1 p.f2 q.f0 q.f1 q.f2 = some (aheadP p q) := by
  unfold spec_l01Ahead.f aheadP
  by_cases h1 : p.f0 < q.f0
  · simp [h1]
  · by_cases h2 : p.f0 = q.f0
    · simp [h2]
    · simp [h1, h2]
theorem faceB_nums {ws : List Int} {sp gp : Int} {l : List S33} (h : (inB sp 1 40 && inB gp 0 10) = false) : faceB ws sp gp l = false := by
  unfold faceB
  rw [Bool.and_assoc, h]
  simp

set_option maxHeartbeats 8000000 in
set_option maxRecDepth 100000 in
theorem shapeC (ws : List Int) (hx : ws.length = 26) (sp gp : Int) (A : Option Addr) (c : Nat) (l : List S33) (g : Nat) (w : World) (hg : w.heap[g]? = some (.cells (FV ws sp gp (.slice A l.length c)) 28)) (hr : Kd.C k33 w A l.length l) (hc : l.length ≤ c) (hl : l.length ≤ 1048576) (hf : Fit ws sp gp l) :
    Calls Tryz.prog 47 #[.pointer (some ⟨g, 0, none⟩)] w fun e w' => e = .returned (.bool (faceB ws sp gp l)) ∧ Below w.heap.size w w' := by
  go_enter Tryz.func47, Tryz.ntmps47
  have HX := Lib.hid hx
  have HR := Lib.hid hr
  have HC := Lib.hid hc
  have HL := Lib.hid hl
  have HF := Lib.hid hf
  have HG := Lib.hid hg
  have HZ := Lib.hid (blk_lt hg)
  clear hr hc hl hx hf hg
  go_wp2
  go_loopw [3] (fun i wr => ∃ k : Nat, k ≤ 26 ∧ i = .int .i64 k ∧ RowKit.Hid ((List.range k).all (fun j => inB (rd ws (j : Nat)) 1 40) = true) ∧ RowKit.Hid (Below w.heap.size w wr)) (fun i _ => 26 - (intOf i).toNat)
  case atStart => exact ⟨0, Nat.zero_le _, rfl, Lib.hid rfl, Lib.hid (Below.refl _ _)⟩
  case round =>
    obtain ⟨k, hk, rfl, HA, HW⟩ := hrel
    have K0 := Lib.hid ((HW.out.block g HZ.out).trans HG.out)
    by_cases hlt : k < 26
    · have hlt2 : (k : Int) < 26 := by omega
      have hcell := (blk_cell K0.out k).trans (FV_lt ws HX.out _ _ _ k hlt)
      have hfit := HF.out.ws k hlt
      have hwr : IntKind.i64.wrap (rd ws (k : Nat)) = rd ws (k : Nat) := IntWalk.i64_in _ (by omega)
      cases hb : inB (rd ws (k : Nat)) 1 40 with
      | false =>
        have E := Lib.hid (faceB_wide (ws := ws) (sp := sp) (gp := gp) (l := l) hlt hb)
        have HI := Lib.hid hb
        clear hb
        go_wp2_with (first | (go_at_call 59; with_reducible refine (spec_in_is (rd ws (k : Nat)) 1 40 false _ HI.out).mono ?_; rintro e w' ⟨rfl, rfl⟩))
        go_ret
        exact ⟨ret_b E.out, HW.out⟩
      | true =>
        have HI := Lib.hid hb
        clear hb
        go_wp2_with (first | (go_at_call 59; with_reducible refine (spec_in_is (rd ws (k : Nat)) 1 40 true _ HI.out).mono ?_; rintro e w' ⟨rfl, rfl⟩))
        go_roundw
        case measure => simp only [intOf]; omega
        case rel => exact ⟨k + 1, by omega, by go_num, Lib.hid (all_step HA.out HI.out), HW⟩
    · have hlt2 : ¬ (k : Int) < 26 := by omega
      have HWB := Lib.hid (show wideB ws = true by have := HA.out; rw [show k = 26 by omega] at this; exact this)
      have c26 := (blk_cell K0.out 26).trans (FV_26 ws HX.out _ _ _)
      have c27 := (blk_cell K0.out 27).trans (FV_27 ws HX.out _ _ _)
      have hsp := HF.out.sp
      have hgp := HF.out.gp
      have hw1 : IntKind.i64.wrap sp = sp := IntWalk.i64_in _ (by omega)
      have hw2 : IntKind.i64.wrap gp = gp := IntWalk.i64_in _ (by omega)
      clear hk hlt
      cases hb : inB sp 1 40 with
      | false =>
        have E := Lib.hid (faceB_nums (ws := ws) (sp := sp) (gp := gp) (l := l) (by rw [hb]; rfl))
        have H1 := Lib.hid hb
        clear hb
        go_wp2_with (first | (go_at_call 59; with_reducible refine (spec_in_is sp 1 40 false _ H1.out).mono ?_; rintro e w' ⟨rfl, rfl⟩))
        go_ret
        exact ⟨ret_b E.out, HW.out⟩
      | true =>
      have H1 := Lib.hid hb
      clear hb
      cases hb : inB gp 0 10 with
      | false =>
        have E := Lib.hid (faceB_nums (ws := ws) (sp := sp) (gp := gp) (l := l) (by rw [hb]; simp))
        have H2 := Lib.hid hb
        clear hb
        go_wp2_with (first | (go_at_call 59; with_reducible refine (spec_in_is sp 1 40 true _ H1.out).mono ?_; rintro e w' ⟨rfl, rfl⟩) | (go_at_call 59; with_reducible refine (spec_in_is gp 0 10 false _ H2.out).mono ?_; rintro e w' ⟨rfl, rfl⟩))
        go_ret
        exact ⟨ret_b E.out, HW.out⟩
      | true =>
      have H2 := Lib.hid hb
      clear hb
      go_wp2_with (first | (go_at_call 59; with_reducible refine (spec_in_is sp 1 40 true _ H1.out).mono ?_; rintro e w' ⟨rfl, rfl⟩) | (go_at_call 59; with_reducible refine (spec_in_is gp 0 10 true _ H2.out).mono ?_; rintro e w' ⟨rfl, rfl⟩))
      clear c26 c27 hlt2
      go_loopw [4] (fun i wr => ∃ j : Nat, j ≤ l.length ∧ i = .int .i64 j ∧ RowKit.Hid ((List.range j).all (pairB gp l) = true) ∧ RowKit.Hid (Below w.heap.size w wr)) (fun i _ => l.length - (intOf i).toNat)
      case atStart => exact ⟨0, Nat.zero_le _, rfl, Lib.hid rfl, HW⟩
      case round =>
        obtain ⟨j, hj, rfl, HA, HV⟩ := hrel
        have J0 := Lib.hid ((HV.out.block g HZ.out).trans HG.out)
        have hbl : (l.length : Int) ≤ 1048576 := by have := HL.out; omega
        have c28 := (blk_cell J0.out 28).trans (FV_28 ws HX.out _ _ _)
        by_cases hlj : j < l.length
        · have hlj2 : (j : Int) < (l.length : Int) := by omega
          obtain ⟨ad, rfl, hx0, hx1, hx2⟩ := at_T33 (Kd.C_below HR.out HV.out) (j : Int) (by omega) (by omega)
          simp only [Int.toNat_natCast] at hx0 hx1 hx2
          have hfit := HF.out.pr j hlj
          have HB2 := Lib.hid (below_alloc (Below.refl wr.heap.size wr) (.cells #[.int .u8 (rd_T33 l (j : Nat)).f0, .int .u8 (rd_T33 l (j : Nat)).f1, .int .i8 (rd_T33 l (j : Nat)).f2] 33))
          have HY := Lib.hid (heap_alloc_new wr (.cells #[.int .u8 (rd_T33 l (j : Nat)).f0, .int .u8 (rd_T33 l (j : Nat)).f1, .int .i8 (rd_T33 l (j : Nat)).f2] 33))
          have HV2 := Lib.hid (below_step HV.out HB2.out)
          have d0 : (wr.alloc (.cells #[.int .u8 (rd_T33 l (j : Nat)).f0, .int .u8 (rd_T33 l (j : Nat)).f1, .int .i8 (rd_T33 l (j : Nat)).f2] 33)).cell? ⟨wr.heap.size, 0, none⟩ = some (.int .u8 (rd_T33 l (j : Nat)).f0) := (blk_cell HY.out 0).trans rfl
          have d1 : (wr.alloc (.cells #[.int .u8 (rd_T33 l (j : Nat)).f0, .int .u8 (rd_T33 l (j : Nat)).f1, .int .i8 (rd_T33 l (j : Nat)).f2] 33)).cell? ⟨wr.heap.size, 1, none⟩ = some (.int .u8 (rd_T33 l (j : Nat)).f1) := (blk_cell HY.out 1).trans rfl
          have d2 : (wr.alloc (.cells #[.int .u8 (rd_T33 l (j : Nat)).f0, .int .u8 (rd_T33 l (j : Nat)).f1, .int .i8 (rd_T33 l (j : Nat)).f2] 33)).cell? ⟨wr.heap.size, 2, none⟩ = some (.int .i8 (rd_T33 l (j : Nat)).f2) := (blk_cell HY.out 2).trans rfl
          have g27 := pw_cell_below HB2.out ((blk_cell J0.out 27).trans (FV_27 ws HX.out _ _ _))
          have g28 := pw_cell_below HB2.out c28
          have hwr : IntKind.i64.wrap (rd_T33 l (j : Nat)).f2 = (rd_T33 l (j : Nat)).f2 := IntWalk.i64_in _ (by omega)
          cases hb : letB (rd_T33 l (j : Nat)).f0 with
          | false =>
            have E := Lib.hid (faceB_pair (ws := ws) (sp := sp) hlj (show pairB gp l j = false by unfold pairB; rw [hb]; simp))
            have L0 := Lib.hid hb
            clear hb
            go_wp2
            go_quiet ((first | (go_at_call 45; with_reducible exact Calls.quiet_of_same (spec_letter_q _ _ _ L0.out)) | (go_at_call 45; with_reducible exact Calls.quiet_of_same (spec_letter_q _ _ _ L1.out)) | (go_at_call 59; with_reducible exact Calls.quiet_of_same (spec_in_q _ _ _ _ _ I2.out))))
            go_wp2
            go_ret
            exact ⟨ret_b E.out, pw_below_drewN HV2.out _⟩
          | true =>
          have L0 := Lib.hid hb
          clear hb
          cases hb : letB (rd_T33 l (j : Nat)).f1 with
          | false =>
            have E := Lib.hid (faceB_pair (ws := ws) (sp := sp) hlj (show pairB gp l j = false by unfold pairB; rw [hb]; simp))
            have L1 := Lib.hid hb
            clear hb
            go_wp2
            go_quiet ((first | (go_at_call 45; with_reducible exact Calls.quiet_of_same (spec_letter_q _ _ _ L0.out)) | (go_at_call 45; with_reducible exact Calls.quiet_of_same (spec_letter_q _ _ _ L1.out)) | (go_at_call 59; with_reducible exact Calls.quiet_of_same (spec_in_q _ _ _ _ _ I2.out))))
            go_wp2
            go_ret
            exact ⟨ret_b E.out, pw_below_drewN HV2.out _⟩
          | true =>
          have L1 := Lib.hid hb
          clear hb
          cases hb : inB (rd_T33 l (j : Nat)).f2 (-10) 10 with
          | false =>
            have E := Lib.hid (faceB_pair (ws := ws) (sp := sp) hlj (show pairB gp l j = false by unfold pairB; rw [hb]; simp))
            have I2 := Lib.hid hb
            clear hb
            go_wp2
            go_quiet ((first | (go_at_call 45; with_reducible exact Calls.quiet_of_same (spec_letter_q _ _ _ L0.out)) | (go_at_call 45; with_reducible exact Calls.quiet_of_same (spec_letter_q _ _ _ L1.out)) | (go_at_call 59; with_reducible exact Calls.quiet_of_same (spec_in_q _ _ _ _ _ I2.out))))
            go_wp2
            go_ret
            exact ⟨ret_b E.out, pw_below_drewN HV2.out _⟩
          | true =>
          have I2 := Lib.hid hb
          clear hb
          cases hb : ((rd_T33 l (j : Nat)).f2 == 0) with
          | true =>
            have E := Lib.hid (faceB_pair (ws := ws) (sp := sp) hlj (show pairB gp l j = false by unfold pairB; rw [decide_eq_true (beq_iff_eq.1 hb)]; simp))
            go_wp2
            go_quiet ((first | (go_at_call 45; with_reducible exact Calls.quiet_of_same (spec_letter_q _ _ _ L0.out)) | (go_at_call 45; with_reducible exact Calls.quiet_of_same (spec_letter_q _ _ _ L1.out)) | (go_at_call 59; with_reducible exact Calls.quiet_of_same (spec_in_q _ _ _ _ _ I2.out))))
            go_wp2
            go_ret
            exact ⟨ret_b E.out, pw_below_drewN HV2.out _⟩
          | false =>
          have Z3 := Lib.hid (decide_eq_false (beq_eq_false_iff_ne.1 hb))
          cases hb4 : decide (IntKind.i8.wrap (gp + (rd_T33 l (j : Nat)).f2) < 0) with
          | true =>
            have E := Lib.hid (faceB_pair (ws := ws) (sp := sp) hlj (show pairB gp l j = false by unfold pairB; rw [hb4]; simp))
            go_wp2
            go_quiet ((first | (go_at_call 45; with_reducible exact Calls.quiet_of_same (spec_letter_q _ _ _ L0.out)) | (go_at_call 45; with_reducible exact Calls.quiet_of_same (spec_letter_q _ _ _ L1.out)) | (go_at_call 59; with_reducible exact Calls.quiet_of_same (spec_in_q _ _ _ _ _ I2.out))))
            go_wp2
            go_ret
            exact ⟨ret_b E.out, pw_below_drewN HV2.out _⟩
          | false =>
          have Z4 := Lib.hid hb4
          have HO := Lib.hid (show pairB gp l j = (decide (j = 0) || aheadP (rd_T33 l ((j - 1 : Nat) : Int)) (rd_T33 l (j : Nat))) by unfold pairB; rw [L0.out, L1.out, I2.out, Z3.out, Z4.out]; simp)
          by_cases hz : 0 < j
          rotate_left
          · have HS := Lib.hid (all_step HA.out (show pairB gp l j = true by rw [HO.out, decide_eq_true (show j = 0 by omega)]; rfl))
            have hz1 : decide ((0 : Int) < (j : Int)) = false := decide_eq_false (by omega)
            have hz2 : decide (0 < j) = false := decide_eq_false hz
            clear hz
            go_wp2
            go_quiet ((first | (go_at_call 45; with_reducible exact Calls.quiet_of_same (spec_letter_q _ _ _ L0.out)) | (go_at_call 45; with_reducible exact Calls.quiet_of_same (spec_letter_q _ _ _ L1.out)) | (go_at_call 59; with_reducible exact Calls.quiet_of_same (spec_in_q _ _ _ _ _ I2.out))))
            go_wp2
            go_quiet (fail)
            go_wp2
            go_roundw
            case measure => simp only [intOf]; omega
            case rel => exact ⟨j + 1, by omega, by go_num, HS, Lib.hid (by first | exact pw_below_drewN HV2.out _ | exact pw_below_drewN (pw_below_drewN HV2.out _) _)⟩
          have hz1 : decide ((0 : Int) < (j : Int)) = true := decide_eq_true (by omega)
          have hz2 : decide (0 < j) = true := decide_eq_true hz
          obtain ⟨ad3, ea, hp0, hp1, hp2⟩ := at_T33 (Kd.C_below HR.out HV2.out) ((j - 1 : Nat) : Int) (by omega) (by omega)
          cases ea
          simp only [Int.toNat_natCast] at hp0 hp1 hp2
          have e1 : (j : Int) - 1 = ((j - 1 : Nat) : Int) := by omega
          have v1 : IntKind.i64.wrap ((j : Int) - 1) = ((j - 1 : Nat) : Int) := by rw [← e1]; exact IntWalk.i64_in _ (by omega)
          have v2 : ((j - 1 : Nat) : Int) < (l.length : Int) := by omega
          have HCP := Lib.hid (fun (b : Bool) (hb : aheadP (rd_T33 l ((j - 1 : Nat) : Int)) (rd_T33 l (j : Nat)) = b) (W : World) => spec_l01Ahead.calls (rd_T33 l ((j - 1 : Nat) : Int)).f0 (rd_T33 l ((j - 1 : Nat) : Int)).f1 (rd_T33 l ((j - 1 : Nat) : Int)).f2 (rd_T33 l (j : Nat)).f0 (rd_T33 l (j : Nat)).f1 (rd_T33 l (j : Nat)).f2 b W ((spec_ahead_val _ _).trans (by rw [hb])))
          clear e1
          cases hah : aheadP (rd_T33 l ((j - 1 : Nat) : Int)) (rd_T33 l (j : Nat)) with
          | false =>
            have HQ := Lib.hid (HCP.out false hah)
            have E := Lib.hid (faceB_pair (ws := ws) (sp := sp) hlj (show pairB gp l j = false by rw [HO.out, hah, decide_eq_false (show ¬ j = 0 by omega)]; rfl))
            clear hah
            go_wp2
            go_quiet ((first | (go_at_call 45; with_reducible exact Calls.quiet_of_same (spec_letter_q _ _ _ L0.out)) | (go_at_call 45; with_reducible exact Calls.quiet_of_same (spec_letter_q _ _ _ L1.out)) | (go_at_call 59; with_reducible exact Calls.quiet_of_same (spec_in_q _ _ _ _ _ I2.out))))
            go_wp2
            go_region_held3 (fun w' => w'.cell? ⟨g, 27, none⟩ = some (.int .i8 gp) ∧ w'.cell? ⟨g, 28, none⟩ = some (.slice (some ad) l.length c) ∧ w'.cell? (ad.add ((j - 1) * 3)) = some (.int .u8 (rd_T33 l ((j - 1 : Nat) : Int)).f0) ∧ w'.cell? ⟨(ad.add ((j - 1) * 3)).block, (ad.add ((j - 1) * 3)).off + 1, none⟩ = some (.int .u8 (rd_T33 l ((j - 1 : Nat) : Int)).f1) ∧ w'.cell? ⟨(ad.add ((j - 1) * 3)).block, (ad.add ((j - 1) * 3)).off + 2, none⟩ = some (.int .i8 (rd_T33 l ((j - 1 : Nat) : Int)).f2) ∧ w'.cell? ⟨wr.heap.size, 0, none⟩ = some (.int .u8 (rd_T33 l (j : Nat)).f0) ∧ w'.cell? ⟨wr.heap.size, 1, none⟩ = some (.int .u8 (rd_T33 l (j : Nat)).f1) ∧ w'.cell? ⟨wr.heap.size, 2, none⟩ = some (.int .i8 (rd_T33 l (j : Nat)).f2) ∧ RowKit.Hid (Below w.heap.size w w'))
              (first | exact ⟨g27, g28, hp0, hp1, hp2, d0, d1, d2, Lib.hid (below_drew1 (pw_below_drewN HV2.out _))⟩ | exact ⟨g27, g28, hp0, hp1, hp2, d0, d1, d2, Lib.hid (below_drew1 HV2.out)⟩ | exact keep8 (by assumption) hb)
              ((first | (go_at_call 46; with_reducible refine (HQ.out _).mono ?_; rintro e w' ⟨rfl, hb⟩)))
            all_goals
              go_wp2
              go_ret
              exact ⟨ret_b E.out, heldB8 (by assumption)⟩
          | true =>
            have HQ := Lib.hid (HCP.out true hah)
            have HS := Lib.hid (all_step HA.out (show pairB gp l j = true by rw [HO.out, hah]; simp))
            clear hah
            go_wp2
            go_quiet ((first | (go_at_call 45; with_reducible exact Calls.quiet_of_same (spec_letter_q _ _ _ L0.out)) | (go_at_call 45; with_reducible exact Calls.quiet_of_same (spec_letter_q _ _ _ L1.out)) | (go_at_call 59; with_reducible exact Calls.quiet_of_same (spec_in_q _ _ _ _ _ I2.out))))
            go_wp2
            go_region_held3 (fun w' => w'.cell? ⟨g, 27, none⟩ = some (.int .i8 gp) ∧ w'.cell? ⟨g, 28, none⟩ = some (.slice (some ad) l.length c) ∧ w'.cell? (ad.add ((j - 1) * 3)) = some (.int .u8 (rd_T33 l ((j - 1 : Nat) : Int)).f0) ∧ w'.cell? ⟨(ad.add ((j - 1) * 3)).block, (ad.add ((j - 1) * 3)).off + 1, none⟩ = some (.int .u8 (rd_T33 l ((j - 1 : Nat) : Int)).f1) ∧ w'.cell? ⟨(ad.add ((j - 1) * 3)).block, (ad.add ((j - 1) * 3)).off + 2, none⟩ = some (.int .i8 (rd_T33 l ((j - 1 : Nat) : Int)).f2) ∧ w'.cell? ⟨wr.heap.size, 0, none⟩ = some (.int .u8 (rd_T33 l (j : Nat)).f0) ∧ w'.cell? ⟨wr.heap.size, 1, none⟩ = some (.int .u8 (rd_T33 l (j : Nat)).f1) ∧ w'.cell? ⟨wr.heap.size, 2, none⟩ = some (.int .i8 (rd_T33 l (j : Nat)).f2) ∧ RowKit.Hid (Below w.heap.size w w'))
              (first | exact ⟨g27, g28, hp0, hp1, hp2, d0, d1, d2, Lib.hid (below_drew1 (pw_below_drewN HV2.out _))⟩ | exact ⟨g27, g28, hp0, hp1, hp2, d0, d1, d2, Lib.hid (below_drew1 HV2.out)⟩ | exact keep8 (by assumption) hb)
              ((first | (go_at_call 46; with_reducible refine (HQ.out _).mono ?_; rintro e w' ⟨rfl, hb⟩)))
            all_goals
              go_wp2
              go_roundw
              case measure => simp only [intOf]; omega
              case rel => exact ⟨j + 1, by omega, by go_num, HS, Lib.hid (heldB8 (by assumption))⟩
        · have hlj2 : ¬ (j : Int) < (l.length : Int) := by omega
          have HPB := Lib.hid (show pairsB gp l = true by have := HA.out; rw [show j = l.length by omega] at this; exact this)
          have E := Lib.hid (show faceB ws sp gp l = true by unfold faceB; rw [H1.out, H2.out, HWB.out, HPB.out]; rfl)
          go_wp2
          go_ret
          exact ⟨ret_b E.out, HV.out⟩
end Go.Proofs.YtimkkjkgbbfgbaaGreatDoor.Q
end
section
/- spec.l01Face, spec.ValidFace, impl.ValidFace, by hand. -/
namespace Go.Proofs.YtimkkjkgbbfgbaaGreatDoor.Q
open Go.RowKit Go.Proofs.YtimkkjkgbbfgbaaGreatDoorW.PrintWords Go.Proofs.YtimkkjkgbbfgbaaGreatDoorW.PrintLast Go.Proofs.YtimkkjkgbbfgbaaGreatDoorW.PrintMore
open Go.Proofs.YtimkkjkgbbfgbaaGreatDoor.Pure
set_option linter.unusedVariables false
set_option linter.unusedSimpArgs false

def validB (ws : List Int) (sp gp : Int) (l : List S33) : Bool := faceB ws sp gp l && decide ((l.length : Int) ≤ 12)

set_option maxHeartbeats 4000000 in
theorem l01FaceC (ws : List Int) (hx : ws.length = 26) (sp gp : Int) (A : Option Addr) (c : Nat) (l : List S33) (g : Nat) (w : World) (hg : w.heap[g]? = some (.cells (FV ws sp gp (.slice A l.length c)) 28)) (hr : Kd.C k33 w A l.length l) (hc : l.length ≤ c) (hl : l.length ≤ 1048576) (hf : Fit ws sp gp l) :
    Calls Tryz.prog 44 #[.pointer (some ⟨g, 0, none⟩)] w fun e w' => e = .returned (.bool (validB ws sp gp l)) ∧ Below w.heap.size w w' := by
  have HS := Lib.hid (shapeC ws hx sp gp A c l g w hg hr hc hl hf)
  have c28 := (blk_cell hg 28).trans (FV_28 ws hx _ _ _)
  clear hg hr hc hl hf hx
  go_enter Tryz.func44, Tryz.ntmps44
  by_cases h : (l.length : Int) ≤ 12
  · have E := Lib.hid (show validB ws sp gp l = faceB ws sp gp l by unfold validB; rw [decide_eq_true h, Bool.and_true])
    obtain ⟨b, hb⟩ : ∃ b, faceB ws sp gp l = b := ⟨_, rfl⟩
    have EB := Lib.hid hb
    clear hb
    go_wp2_with (first
      | (go_at_call 47
         with_reducible refine HS.out.mono ?_
         rintro e w1 ⟨rfl, hb⟩
         rw [EB.out]
         have B1 := Lib.hid hb
         clear hb))
    go_ret
    exact ⟨ret_b (E.out.trans EB.out), B1.out⟩
  · have E := Lib.hid (show validB ws sp gp l = false by unfold validB; rw [decide_eq_false h, Bool.and_false])
    go_wp2
    go_ret
    exact ⟨ret_b E.out, Below.refl _ _⟩

set_option maxHeartbeats 4000000 in
theorem implValidC (ws : List Int) (hx : ws.length = 26) (sp gp : Int) (A : Option Addr) (c : Nat) (l : List S33) (w : World) (hr : Kd.C k33 w A l.length l) (hc : l.length ≤ c) (hl : l.length ≤ 1048576) (hf : Fit ws sp gp l) (b : Bool) (hb : validB ws sp gp l = b) :
    Calls Tryz.prog 17 #[.agg (FV ws sp gp (.slice A l.length c))] w fun e w' => e = .returned (.bool b) ∧ Below w.heap.size w w' := by
  go_enter Tryz.func17, Tryz.ntmps17
  obtain ⟨M, hM⟩ : ∃ M : Nat, M = 29 := ⟨_, rfl⟩
  obtain ⟨U, hU⟩ : ∃ U : TypeId, U = 28 := ⟨_, rfl⟩
  have hzU : ∀ w, (sizeOf U).run Tryz.prog w = .ok M w := fun w => by rw [hM, hU]; exact Tryz.sizeOf28 w
  have haU : ∀ w, (isAgg U).run Tryz.prog w = .ok true w := fun w => by rw [hU]; exact Tryz.isAgg28 w
  have e2 : ∀ x, Op.load 28 x = Op.load U x := fun x => by rw [hU]
  simp only [e2]
  clear e2
  have H1 := Lib.hid (heap_alloc_new w (.cells (FV ws sp gp (.slice A l.length c)) 28))
  have HB := Lib.hid (below_alloc (Below.refl w.heap.size w) (.cells (FV ws sp gp (.slice A l.length c)) 28))
  have HS := Lib.hid (isFaceC ws hx sp gp A c l _ (Kd.C_below hr HB.out) hc hl hf)
  have q0 := loadF H1.out hx hM
  have HX := Lib.hid hx
  obtain ⟨f, hff⟩ : ∃ f, faceB ws sp gp l = f := ⟨_, rfl⟩
  have EF := Lib.hid hff
  have EB := Lib.hid (show (f && decide ((l.length : Int) ≤ 12)) = b by rw [← hff]; exact hb)
  have SZ := Lib.hid (show w.heap.size < (w.alloc (.cells (FV ws sp gp (.slice A l.length c)) 28)).heap.size by simp)
  clear hr hc hl hf hx hb hff hM hU
  cases f with
  | false =>
    go_wp2_with (first
      | (go_at_call 43
         with_reducible refine HS.out.mono ?_
         rintro e w1 ⟨rfl, hb⟩
         rw [EF.out]
         have B1 := Lib.hid (below_step HB.out hb)
         clear hb))
    go_ret
    exact ⟨ret_b EB.out.symm, B1.out⟩
  | true =>
    go_wp2_with (first
      | (go_at_call 43
         with_reducible refine HS.out.mono ?_
         rintro e w1 ⟨rfl, hb⟩
         rw [EF.out]
         have B1 := Lib.hid (below_step HB.out hb)
         have c28 := (blk_cell ((hb.block w.heap.size SZ.out).trans H1.out) 28).trans (FV_28 ws HX.out _ _ _)
         clear hb))
    go_ret
    exact ⟨by rw [← EB.out]; rfl, B1.out⟩
end Go.Proofs.YtimkkjkgbbfgbaaGreatDoor.Q
end
