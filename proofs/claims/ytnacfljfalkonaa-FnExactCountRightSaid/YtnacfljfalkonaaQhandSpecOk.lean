/- spec.l03Ok by hand: it answers whether a system is valid. -/
import Derived.Test.YtnacfljfalkonaaQpureValid
import Derived.Outline
import Derived.Lib.Hide
import Derived.BigRegion
import Derived.Deep.QuietTactic
import Derived.BigQuiet
import Derived.IntWalk
namespace Go.Proofs.Ytnacfljfalkonaa.Q
open Go.RowKit Go.Proofs.YtnacfljfalkonaaW.PrintWords Go.Proofs.YtnacfljfalkonaaW.PrintLast Go.Proofs.YtnacfljfalkonaaW.PrintMore
open Go.Proofs.Ytnacfljfalkonaa.Pure
set_option linter.unusedVariables false

theorem spec_letter_is (a : Int) (b : Bool) (w : World) (h : letB a = b) : Calls Try.prog 29 #[.int .u8 a] w fun e w' => e = .returned (.bool b) ∧ w = w' := by
  subst h
  unfold letB
  by_cases h1 : 65 ≤ a
  · go_enter Try.func29, Try.ntmps29
    go_wp2
    go_ret
    exact ⟨by simp [h1], rfl⟩
  · go_enter Try.func29, Try.ntmps29
    go_wp2
    go_ret
    exact ⟨by simp; omega, rfl⟩
theorem spec_in_is (a lo hi : Int) (b : Bool) (w : World) (h : (decide (lo ≤ a) && decide (a ≤ hi)) = b) : Calls Try.prog 24 #[.int .i64 a, .int .i64 lo, .int .i64 hi] w fun e w' => e = .returned (.bool b) ∧ w = w' := by
  subst h
  by_cases h1 : lo ≤ a
  · go_enter Try.func24, Try.ntmps24
    go_wp2
    go_ret
    exact ⟨by simp [h1], rfl⟩
  · go_enter Try.func24, Try.ntmps24
    go_wp2
    go_ret
    exact ⟨by simp; omega, rfl⟩

theorem spec_letter_q (a : Int) (b : Bool) (w : World) (h : letB a = b) : Calls Try.prog 29 #[.int .u8 a] w fun e w' => e = .returned (.bool b) ∧ w' = w := (spec_letter_is a b w h).mono fun _ _ h => ⟨h.1, h.2.symm⟩
theorem spec_in_q (a lo hi : Int) (b : Bool) (w : World) (h : (decide (lo ≤ a) && decide (a ≤ hi)) = b) : Calls Try.prog 24 #[.int .i64 a, .int .i64 lo, .int .i64 hi] w fun e w' => e = .returned (.bool b) ∧ w' = w := (spec_in_is a lo hi b w h).mono fun _ _ h => ⟨h.1, h.2.symm⟩
theorem ret_b {a b : Bool} (h : a = b) : Ending.returned (.bool a) = .returned (.bool b) := by rw [h]
def spec_l03Ok.f (s : List SG) (m : List MP) : Option Bool := if s.length ≤ 1048576 ∧ m.length ≤ 1048576 ∧ (s.all (fun x => decide (-32768 ≤ x.f1) && decide (x.f1 ≤ 32767))) = true then some (okB s m) else none
theorem fit16_of {s : List SG} (h : (s.all (fun x => decide (-32768 ≤ x.f1) && decide (x.f1 ≤ 32767))) = true) : fit16 s := fun x hx => by
  have := List.all_eq_true.1 h x hx
  simpa using this

set_option maxHeartbeats 8000000 in
set_option maxRecDepth 100000 in
theorem spec_l03Ok.calls (g : Nat) (s0_0 : List SG) (s0_1 : List MP) (r : Bool) (w0 w : World) (hI : IsS31 w0 w g s0_0 s0_1) (hB : Below w0.heap.size w0 w) (h : spec_l03Ok.f s0_0 s0_1 = some r) :
    Calls Try.prog 14 #[.pointer (some ⟨g, 0, none⟩)] w fun e w' => e = .returned (.bool r) ∧ IsS31 w0 w' g s0_0 s0_1 ∧ Below w0.heap.size w0 w' ∧ KeepBut w w' g none := by
  unfold spec_l03Ok.f at h
  split at h
  rotate_left
  · cases h
  rename_i hb
  obtain ⟨hls, hlm, hfb⟩ := hb
  have HF := Lib.hid (fit16_of hfb)
  have R := Lib.hid (Option.some.inj h)
  clear h hfb
  have HI := Lib.hid hI
  have HB := Lib.hid hB
  clear hB
  obtain ⟨A0, c0, A1, c1, hb, hg, hr0, hr1⟩ := hI
  have HBK := Lib.hid hb
  have HR0 := Lib.hid hr0
  have HR1 := Lib.hid hr1
  have hc0 : w.cell? ⟨g, 0, none⟩ = some (.slice A0 s0_0.length c0) := (blk_cell HBK.out 0).trans rfl
  have hc1 : w.cell? ⟨g, 1, none⟩ = some (.slice A1 s0_1.length c1) := (blk_cell HBK.out 1).trans rfl
  clear hb hg hr0 hr1
  by_cases h1 : s0_0.length = 0
  · have hd : (decide ((1 : Int) ≤ (s0_0.length : Int)) && decide ((s0_0.length : Int) ≤ 8)) = false := by simp; omega
    have E := Lib.hid (okB_head (s := s0_0) (m := s0_1) (by unfold headB; simp [h1]))
    clear h1
    go_enter Try.func14, Try.ntmps14
    go_wp2_with (go_at_call 24; refine (spec_in_is _ _ _ _ _ hd).mono ?_; rintro e w' ⟨rfl, rfl⟩)
    go_ret
    exact ⟨ret_b (E.out.symm.trans R.out), HI.out, HB.out, KeepBut.refl _ _ _⟩
  by_cases h2 : 8 < s0_0.length
  · have hd : (decide ((1 : Int) ≤ (s0_0.length : Int)) && decide ((s0_0.length : Int) ≤ 8)) = false := by simp; omega
    have E := Lib.hid (okB_head (s := s0_0) (m := s0_1) (by unfold headB; simp; omega))
    go_enter Try.func14, Try.ntmps14
    go_wp2_with (go_at_call 24; refine (spec_in_is _ _ _ _ _ hd).mono ?_; rintro e w' ⟨rfl, rfl⟩)
    go_ret
    exact ⟨ret_b (E.out.symm.trans R.out), HI.out, HB.out, KeepBut.refl _ _ _⟩
  have hd : (decide ((1 : Int) ≤ (s0_0.length : Int)) && decide ((s0_0.length : Int) ≤ 8)) = true := by simp; omega
  by_cases h3 : 8 < s0_1.length
  · have h3d : decide ((8 : Int) < (s0_1.length : Int)) = true := decide_eq_true (by omega)
    have E := Lib.hid (okB_head (s := s0_0) (m := s0_1) (by unfold headB; simp; omega))
    go_enter Try.func14, Try.ntmps14
    go_wp2_with (go_at_call 24; refine (spec_in_is _ _ _ _ _ hd).mono ?_; rintro e w' ⟨rfl, rfl⟩)
    go_ret
    exact ⟨ret_b (E.out.symm.trans R.out), HI.out, HB.out, KeepBut.refl _ _ _⟩
  have h3d : decide ((8 : Int) < (s0_1.length : Int)) = false := decide_eq_false (by omega)
  have h1i : (1 : Int) ≤ (s0_0.length : Int) := by omega
  have h2i : (s0_0.length : Int) ≤ 8 := by omega
  obtain ⟨ad, rfl, hx0, hx1⟩ := at_T77 (Kd.C_below HR0.out HB.out) ((s0_0.length : Int) - 1) (by omega) (by omega)
  rw [show ((s0_0.length : Int) - 1).toNat = s0_0.length - 1 by omega] at hx0 hx1
  by_cases h4 : (rd_T77 s0_0 ((s0_0.length - 1 : Nat) : Int)).f1 = 1
  rotate_left
  · have h4b : ((rd_T77 s0_0 ((s0_0.length : Int) - 1)).f1 != 1) = true := by rw [show (s0_0.length : Int) - 1 = ((s0_0.length - 1 : Nat) : Int) by omega]; simpa using h4
    have E := Lib.hid (okB_head (s := s0_0) (m := s0_1) (by unfold headB; simp [h4]))
    clear h4
    go_enter Try.func14, Try.ntmps14
    go_wp2_with (go_at_call 24; refine (spec_in_is _ _ _ _ _ hd).mono ?_; rintro e w' ⟨rfl, rfl⟩)
    go_ret
    exact ⟨ret_b (E.out.symm.trans R.out), HI.out, HB.out, KeepBut.refl _ _ _⟩
  have h4b : ((rd_T77 s0_0 ((s0_0.length : Int) - 1)).f1 != 1) = false := by rw [show (s0_0.length : Int) - 1 = ((s0_0.length - 1 : Nat) : Int) by omega]; simpa using h4
  have HH := Lib.hid (show headB s0_0 s0_1 = true by unfold headB; simp [h4]; omega)
  clear h4
  go_enter Try.func14, Try.ntmps14
  go_wp2_with (go_at_call 24; refine (spec_in_is _ _ _ _ _ hd).mono ?_; rintro e w' ⟨rfl, rfl⟩)
  go_loopw [4] (fun i wr => ∃ k : Nat, k ≤ s0_0.length ∧ i = .int .i64 k ∧ RowKit.Hid ((List.range k).all (sgB s0_0) = true) ∧ RowKit.Hid (Below w.heap.size w wr)) (fun i _ => s0_0.length - (intOf i).toNat)
  case atStart => exact ⟨0, Nat.zero_le _, rfl, Lib.hid rfl, Lib.hid (Below.refl _ _)⟩
  case round =>
    obtain ⟨k, hk, rfl, HA, HW⟩ := hrel
    clear hx0 hx1 h4b
    have HW0 := Lib.hid (below_then HB.out HB.out.size HW.out)
    have hBK2 := Lib.hid ((HW.out.block g HI.out.lt).trans HBK.out)
    have hd0 : wr.cell? ⟨g, 0, none⟩ = some (.slice (some ad) s0_0.length c0) := (blk_cell hBK2.out 0).trans rfl
    have hd1 : wr.cell? ⟨g, 1, none⟩ = some (.slice A1 s0_1.length c1) := (blk_cell hBK2.out 1).trans rfl
    have HIR := Lib.hid (HI.out.below HW.out)
    by_cases hlt : k < s0_0.length
    · have hlt2 : (k : Int) < (s0_0.length : Int) := by omega
      obtain ⟨ad2, ea, hx, hy⟩ := at_T77 (Kd.C_below HR0.out HW0.out) (k : Nat) (by omega) (by omega)
      cases ea
      simp only [Int.toNat_natCast] at hx hy
      have hfit := HF.out _ (List.getElem_mem hlt)
      rw [← rdSG_get _ _ hlt] at hfit
      obtain ⟨hfit0, hfit1⟩ := hfit
      have Hx := Lib.hid hx
      have Hy := Lib.hid hy
      by_cases c1 : letB (rd_T77 s0_0 (k : Int)).f0 = true
      rotate_left
      · have L := Lib.hid (show letB (rd_T77 s0_0 (k : Int)).f0 = false by simpa using c1)
        have E := Lib.hid (okB_sg (m := s0_1) k hlt (by unfold sgB; rw [L.out]; simp))
        clear c1
        go_wp2
        go_quiet ((first | (go_at_call 29; exact Calls.quiet_of_same (spec_letter_q _ _ _ L.out)) | (go_at_call 24; exact Calls.quiet_of_same (spec_in_q _ _ _ _ _ hd))))
        go_wp2
        go_ret
        exact ⟨ret_b (E.out.symm.trans R.out), HIR.out.drewN _, pw_below_drewN HW0.out _, keep_drewN (KeepBut.of_below HW.out _ _) _⟩
      have L := Lib.hid c1
      clear c1
      by_cases c2 : rngB (rd_T77 s0_0 (k : Int)).f1 = true
      rotate_left
      · have G := Lib.hid (show (decide ((1 : Int) ≤ (rd_T77 s0_0 (k : Int)).f1) && decide ((rd_T77 s0_0 (k : Int)).f1 ≤ 5000)) = false by simpa [rngB] using c2)
        have E := Lib.hid (okB_sg (m := s0_1) k hlt (by unfold sgB; rw [show rngB (rd_T77 s0_0 (k : Int)).f1 = false from G.out]; simp))
        clear c2
        go_wp2
        go_quiet ((first | (go_at_call 29; exact Calls.quiet_of_same (spec_letter_q _ _ _ L.out)) | (go_at_call 24; exact Calls.quiet_of_same (spec_in_q _ _ _ _ _ G.out))))
        go_wp2
        go_ret
        exact ⟨ret_b (E.out.symm.trans R.out), HIR.out.drewN _, pw_below_drewN HW0.out _, keep_drewN (KeepBut.of_below HW.out _ _) _⟩
      have G := Lib.hid (show (decide ((1 : Int) ≤ (rd_T77 s0_0 (k : Int)).f1) && decide ((rd_T77 s0_0 (k : Int)).f1 ≤ 5000)) = true from c2)
      clear c2
      have hcase : k = 0 ∨ (0 < k ∧ (rd_T77 s0_0 (k : Int)).f1 < (rd_T77 s0_0 ((k - 1 : Nat) : Int)).f1) ∨ (0 < k ∧ ¬ (rd_T77 s0_0 (k : Int)).f1 < (rd_T77 s0_0 ((k - 1 : Nat) : Int)).f1) := by omega
      rcases hcase with hz | ⟨hz, c3⟩ | ⟨hz, c3⟩
      rotate_left
      rotate_left
      · have E := Lib.hid (okB_sg (m := s0_1) k hlt (by unfold sgB; rw [decide_eq_false c3, decide_eq_false (show ¬ k = 0 by omega)]; simp))
        have hz1 : decide ((0 : Int) < (k : Int)) = true := decide_eq_true (by omega)
        have hz2 : decide (0 < k) = true := decide_eq_true hz
        obtain ⟨ad3, ea, hp, hq⟩ := at_T77 (Kd.C_below HR0.out HW0.out) ((k - 1 : Nat) : Int) (by omega) (by omega)
        cases ea
        simp only [Int.toNat_natCast] at hp hq
        have hge : decide ((rd_T77 s0_0 ((k - 1 : Nat) : Int)).f1 ≤ (rd_T77 s0_0 (k : Int)).f1) = true := decide_eq_true (by omega)
        have e1 : (k : Int) - 1 = ((k - 1 : Nat) : Int) := by omega
        have w1 : IntKind.i64.wrap ((k : Int) - 1) = ((k - 1 : Nat) : Int) := by rw [← e1]; exact IntWalk.i64_in _ (by omega)
        have w2 : ((k - 1 : Nat) : Int) < (s0_0.length : Int) := by omega
        clear c3 e1
        go_wp2
        go_quiet ((first | (go_at_call 29; exact Calls.quiet_of_same (spec_letter_q _ _ _ L.out)) | (go_at_call 24; exact Calls.quiet_of_same (spec_in_q _ _ _ _ _ G.out))))
        go_wp2
        go_ret
        exact ⟨ret_b (E.out.symm.trans R.out), HIR.out.drewN _, pw_below_drewN HW0.out _, keep_drewN (KeepBut.of_below HW.out _ _) _⟩
      focus
        have HS := Lib.hid (show dupB s0_0 k = false → sgB s0_0 k = true from fun hd => by unfold sgB; rw [L.out, show rngB (rd_T77 s0_0 (k : Int)).f1 = true from G.out, hd, decide_eq_true hz]; rfl)
        have hz1 : decide ((0 : Int) < (k : Int)) = false := decide_eq_false (by omega)
        have hz2 : decide (0 < k) = false := decide_eq_false (by omega)
        clear hz
        go_wp2
        go_quiet ((first | (go_at_call 29; exact Calls.quiet_of_same (spec_letter_q _ _ _ L.out)) | (go_at_call 24; exact Calls.quiet_of_same (spec_in_q _ _ _ _ _ G.out))))
        go_wp2
      rotate_left
      focus
        have HS := Lib.hid (show dupB s0_0 k = false → sgB s0_0 k = true from fun hd => by unfold sgB; rw [L.out, show rngB (rd_T77 s0_0 (k : Int)).f1 = true from G.out, hd, decide_eq_true c3]; simp)
        have hz1 : decide ((0 : Int) < (k : Int)) = true := decide_eq_true (by omega)
        have hz2 : decide (0 < k) = true := decide_eq_true hz
        obtain ⟨ad3, ea, hp, hq⟩ := at_T77 (Kd.C_below HR0.out HW0.out) ((k - 1 : Nat) : Int) (by omega) (by omega)
        cases ea
        simp only [Int.toNat_natCast] at hp hq
        have hge : decide ((rd_T77 s0_0 ((k - 1 : Nat) : Int)).f1 ≤ (rd_T77 s0_0 (k : Int)).f1) = false := decide_eq_false (by omega)
        have e1 : (k : Int) - 1 = ((k - 1 : Nat) : Int) := by omega
        have w1 : IntKind.i64.wrap ((k : Int) - 1) = ((k - 1 : Nat) : Int) := by rw [← e1]; exact IntWalk.i64_in _ (by omega)
        have w2 : ((k - 1 : Nat) : Int) < (s0_0.length : Int) := by omega
        clear c3 e1
        go_wp2
        go_quiet ((first | (go_at_call 29; exact Calls.quiet_of_same (spec_letter_q _ _ _ L.out)) | (go_at_call 24; exact Calls.quiet_of_same (spec_in_q _ _ _ _ _ G.out))))
        clear hp hq hge w1 w2 hz
        go_wp2
      all_goals
        clear Hx Hy hx hy hfit0 hfit1
        go_loopw [5] (fun i wr2 => ∃ j : Nat, j ≤ k ∧ i = .int .i64 j ∧ RowKit.Hid ((s0_0.take j).any (fun y => decide (y.f0 = (rd_T77 s0_0 (k : Int)).f0)) = false) ∧ RowKit.Hid (Below w.heap.size w wr2)) (fun i _ => k - (intOf i).toNat)
        case atStart => exact ⟨0, Nat.zero_le _, rfl, Lib.hid (by simp), Lib.hid (pw_below_drewN HW.out _)⟩
        case round =>
          obtain ⟨j, hj, rfl, HD, HV⟩ := hrel
          have HV0 := Lib.hid (below_then HB.out HB.out.size HV.out)
          have HBV := Lib.hid ((HV.out.block g HI.out.lt).trans HBK.out)
          have hv0 : wr.cell? ⟨g, 0, none⟩ = some (.slice (some ad) s0_0.length c0) := (blk_cell HBV.out 0).trans rfl
          have HIV := Lib.hid (HI.out.below HV.out)
          by_cases hjk : j < k
          · have hjk2 : (j : Int) < (k : Int) := by omega
            have hjn : (j : Int) < (s0_0.length : Int) := by omega
            obtain ⟨ad3, ea, hp, hq⟩ := at_T77 (Kd.C_below HR0.out HV0.out) (k : Nat) (by omega) (by omega)
            cases ea
            obtain ⟨ad4, ea, hp2, hq2⟩ := at_T77 (Kd.C_below HR0.out HV0.out) (j : Nat) (by omega) (by omega)
            cases ea
            simp only [Int.toNat_natCast] at hp hp2
            clear hq hq2
            by_cases e : (rd_T77 s0_0 (j : Int)).f0 = (rd_T77 s0_0 (k : Int)).f0
            · have ht : ((rd_T77 s0_0 (j : Int)).f0 == (rd_T77 s0_0 (k : Int)).f0) = true := beq_iff_eq.2 e
              have E := Lib.hid (okB_sg (m := s0_1) k hlt (by unfold sgB; rw [dupB_hit hjk hlt e]; simp))
              clear e
              go_wp2
              go_quiet (fail)
              go_wp2
              go_ret
              exact ⟨ret_b (E.out.symm.trans R.out), HIV.out.drewN _, pw_below_drewN HV0.out _, keep_drewN (KeepBut.of_below HV.out _ _) _⟩
            · have ht : ((rd_T77 s0_0 (j : Int)).f0 == (rd_T77 s0_0 (k : Int)).f0) = false := beq_eq_false_iff_ne.2 e
              have NE := Lib.hid e
              clear e
              go_wp2
              go_quiet (fail)
              go_wp2
              go_roundw
              case measure => simp only [intOf]; omega
              case rel => exact ⟨j + 1, by omega, by go_num, Lib.hid (dupB_step hjk hlt HD.out NE.out), Lib.hid (pw_below_drewN HV.out _)⟩
          · have EJ : j = k := by omega
            have HSG := Lib.hid (HS.out (by have := HD.out; rw [EJ] at this; exact this))
            have hjk2 : ¬ (j : Int) < (k : Int) := by omega
            clear EJ
            go_wp2
            go_roundw
            case measure => simp only [intOf]; omega
            case rel => exact ⟨k + 1, by omega, by go_num, Lib.hid (all_step HA.out HSG.out), HV⟩
    · have hlt2 : ¬ (k : Int) < (s0_0.length : Int) := by omega
      have HALL := Lib.hid (show (List.range s0_0.length).all (sgB s0_0) = true by have := HA.out; rw [show k = s0_0.length by omega] at this; exact this)
      go_wp2
      go_loopw [6] (fun i wr2 => ∃ j : Nat, j ≤ s0_1.length ∧ i = .int .i64 j ∧ RowKit.Hid ((List.range j).all (mpB s0_0 s0_1) = true) ∧ RowKit.Hid (IsS31 w0 wr2 g s0_0 s0_1) ∧ RowKit.Hid (Below w0.heap.size w0 wr2) ∧ RowKit.Hid (KeepBut w wr2 g none)) (fun i _ => s0_1.length - (intOf i).toNat)
      case atStart => exact ⟨0, Nat.zero_le _, rfl, Lib.hid rfl, HIR, HW0, Lib.hid (KeepBut.of_below HW.out _ _)⟩
      case round =>
        obtain ⟨j, hj, rfl, HM, HI2, HB2, HK2⟩ := hrel
        clear hd0 hd1
        obtain ⟨A0', c0', A1', c1', hb', hg', hr0', hr1'⟩ := HI2.out
        have HBK' := Lib.hid hb'
        have HR1' := Lib.hid hr1'
        have hv1 : wr.cell? ⟨g, 1, none⟩ = some (.slice A1' s0_1.length c1') := (blk_cell HBK'.out 1).trans rfl
        clear hb' hg' hr0' hr1'
        by_cases hlj : j < s0_1.length
        · have hlj2 : (j : Int) < (s0_1.length : Int) := by omega
          obtain ⟨ad3, ea, hp, hq⟩ := at_T79 (Kd.C_below HR1'.out HB2.out) (j : Nat) (by omega) (by omega)
          cases ea
          simp only [Int.toNat_natCast] at hp hq
          have NEG := Lib.hid (show wr.heap.size ≠ g by have := HI2.out.lt; omega)
          have VA := Lib.hid (fun c => spec_l03Value.val s0_0 s0_1 c hls HF.out (s0_0.length + 1) (by omega))
          go_wp2_with fail
          (with_reducible refine (spec_l03Value.calls (s0_0.length + 1) g s0_0 s0_1 (rd_T79 s0_1 (j : Int)).f0 (valB s0_0 (rd_T79 s0_1 (j : Int)).f0) w0 _ (HI2.out.alloc _) (HB2.out.alloc HB2.out.size _) (VA.out _)).mono ?_)
          rintro e w1 ⟨rfl, hI1, hB1, hK1⟩
          have HI1 := Lib.hid hI1
          have HB1 := Lib.hid hB1
          have HK1 := Lib.hid ((keep_alloc HK2.out _).trans hK1 (Or.inl rfl))
          have HX1 := Lib.hid (hK1.blk (heap_alloc_new wr _) NEG.out (by simp))
          have hx1b : w1.cell? ⟨wr.heap.size, 1, none⟩ = some (.int .u8 (rd_T79 s0_1 (j : Int)).f1) := (blk_cell HX1.out 1).trans rfl
          clear hI1 hB1 hK1
          go_wp2_with fail
          (with_reducible refine (spec_l03Value.calls (s0_0.length + 1) g s0_0 s0_1 (rd_T79 s0_1 (j : Int)).f1 (valB s0_0 (rd_T79 s0_1 (j : Int)).f1) w0 _ HI1.out HB1.out (VA.out _)).mono ?_)
          rintro e w2 ⟨rfl, hI3, hB3, hK3⟩
          have HI3 := Lib.hid hI3
          have HB3 := Lib.hid hB3
          have HK3 := Lib.hid (HK1.out.trans hK3 (Or.inl rfl))
          have HX2 := Lib.hid (hK3.blk HX1.out NEG.out (by simp))
          clear hI3 hB3 hK3 hx1b hv1 hp hq
          by_cases ca : valB s0_0 (rd_T79 s0_1 (j : Int)).f0 = 0
          · have t1 : (valB s0_0 (rd_T79 s0_1 (j : Int)).f0 == 0) = true := beq_iff_eq.2 ca
            have E := Lib.hid (okB_mp (s := s0_0) j hlj (by unfold mpB; rw [ca]; simp))
            clear ca
            go_wp2
            go_ret
            exact ⟨ret_b (E.out.symm.trans R.out), HI3.out, HB3.out, HK3.out⟩
          have t1 : (valB s0_0 (rd_T79 s0_1 (j : Int)).f0 == 0) = false := beq_eq_false_iff_ne.2 ca
          have CA := Lib.hid ca
          clear ca
          by_cases cb : valB s0_0 (rd_T79 s0_1 (j : Int)).f0 < valB s0_0 (rd_T79 s0_1 (j : Int)).f1
          rotate_left
          · have t2 : decide (valB s0_0 (rd_T79 s0_1 (j : Int)).f1 ≤ valB s0_0 (rd_T79 s0_1 (j : Int)).f0) = true := decide_eq_true (by omega)
            have E := Lib.hid (okB_mp (s := s0_0) j hlj (by unfold mpB; rw [decide_eq_false cb]; simp))
            clear cb
            go_wp2
            go_ret
            exact ⟨ret_b (E.out.symm.trans R.out), HI3.out, HB3.out, HK3.out⟩
          have t2 : decide (valB s0_0 (rd_T79 s0_1 (j : Int)).f1 ≤ valB s0_0 (rd_T79 s0_1 (j : Int)).f0) = false := decide_eq_false (by omega)
          have CB := Lib.hid cb
          clear cb
          by_cases hz : 0 < j
          rotate_left
          · have HM2 := Lib.hid (all_step HM.out (show mpB s0_0 s0_1 j = true by unfold mpB; rw [decide_eq_true CA.out, decide_eq_true CB.out, decide_eq_true (show j = 0 by omega)]; rfl))
            have hz1 : decide ((0 : Int) < (j : Int)) = false := decide_eq_false (by omega)
            have hz2 : decide (0 < j) = false := decide_eq_false hz
            clear hz
            go_wp2
            go_roundw
            case measure => simp only [intOf]; omega
            case rel => exact ⟨j + 1, by omega, by go_num, HM2, HI3, HB3, HK3⟩
          have hz1 : decide ((0 : Int) < (j : Int)) = true := decide_eq_true (by omega)
          have hz2 : decide (0 < j) = true := decide_eq_true hz
          obtain ⟨A0'', c0'', A1'', c1'', hb'', hg'', hr0'', hr1''⟩ := HI3.out
          obtain ⟨ad5, ea, hp5, hq5⟩ := at_T79 (Kd.C_below hr1'' HB3.out) ((j - 1 : Nat) : Int) (by omega) (by omega)
          cases ea
          have hv5 : w2.cell? ⟨g, 1, none⟩ = some (.slice (some ad5) s0_1.length c1'') := (blk_cell hb'' 1).trans rfl
          clear hb'' hg'' hr0'' hr1''
          simp only [Int.toNat_natCast] at hp5 hq5
          have e1 : (j : Int) - 1 = ((j - 1 : Nat) : Int) := by omega
          have hx20 : w2.cell? ⟨wr.heap.size, 0, none⟩ = some (.int .u8 (rd_T79 s0_1 (j : Int)).f0) := (blk_cell HX2.out 0).trans rfl
          have hx21 : w2.cell? ⟨wr.heap.size, 1, none⟩ = some (.int .u8 (rd_T79 s0_1 (j : Int)).f1) := (blk_cell HX2.out 1).trans rfl
          have hsz : wr.heap.size < w2.heap.size := (Array.getElem?_eq_some_iff.1 HX2.out).1
          have hcs : (rd_T79 s0_1 (j : Int)).f0 < (rd_T79 s0_1 ((j - 1 : Nat) : Int)).f0 ∨ ((rd_T79 s0_1 ((j - 1 : Nat) : Int)).f0 = (rd_T79 s0_1 (j : Int)).f0 ∧ (rd_T79 s0_1 (j : Int)).f1 ≤ (rd_T79 s0_1 ((j - 1 : Nat) : Int)).f1) ∨ ((rd_T79 s0_1 ((j - 1 : Nat) : Int)).f0 = (rd_T79 s0_1 (j : Int)).f0 ∧ (rd_T79 s0_1 ((j - 1 : Nat) : Int)).f1 < (rd_T79 s0_1 (j : Int)).f1) ∨ (rd_T79 s0_1 ((j - 1 : Nat) : Int)).f0 < (rd_T79 s0_1 (j : Int)).f0 := by omega
          rcases hcs with q | ⟨q, q'⟩ | ⟨q, q'⟩ | q
          · have E := Lib.hid (okB_mp (s := s0_0) j hlj (by unfold mpB aheadB; rw [decide_eq_false (show ¬ j = 0 by omega), decide_eq_false (show ¬ (rd_T79 s0_1 ((j - 1 : Nat) : Int)).f0 < (rd_T79 s0_1 (j : Int)).f0 by omega), decide_eq_false (show ¬ (rd_T79 s0_1 ((j - 1 : Nat) : Int)).f0 = (rd_T79 s0_1 (j : Int)).f0 by omega)]; simp))
            have g1 : decide ((rd_T79 s0_1 (j : Int)).f0 < (rd_T79 s0_1 ((j - 1 : Nat) : Int)).f0) = true := decide_eq_true q
            clear q
            go_wp2
            go_ret
            exact ⟨ret_b (E.out.symm.trans R.out), HI3.out.alloc _, HB3.out.alloc HB3.out.size _, keep_alloc HK3.out _⟩
          · have E := Lib.hid (okB_mp (s := s0_0) j hlj (by unfold mpB aheadB; rw [decide_eq_false (show ¬ j = 0 by omega), decide_eq_false (show ¬ (rd_T79 s0_1 ((j - 1 : Nat) : Int)).f0 < (rd_T79 s0_1 (j : Int)).f0 by omega), decide_eq_false (show ¬ (rd_T79 s0_1 ((j - 1 : Nat) : Int)).f1 < (rd_T79 s0_1 (j : Int)).f1 by omega)]; simp))
            have g1 : decide ((rd_T79 s0_1 (j : Int)).f0 < (rd_T79 s0_1 ((j - 1 : Nat) : Int)).f0) = false := decide_eq_false (by omega)
            have g2 : ((rd_T79 s0_1 ((j - 1 : Nat) : Int)).f0 == (rd_T79 s0_1 (j : Int)).f0) = true := beq_iff_eq.2 q
            have g3 : decide ((rd_T79 s0_1 (j : Int)).f1 ≤ (rd_T79 s0_1 ((j - 1 : Nat) : Int)).f1) = true := decide_eq_true q'
            clear q q'
            go_wp2
            go_ret
            exact ⟨ret_b (E.out.symm.trans R.out), HI3.out.alloc _, HB3.out.alloc HB3.out.size _, keep_alloc HK3.out _⟩
          · have HM2 := Lib.hid (all_step HM.out (show mpB s0_0 s0_1 j = true by unfold mpB aheadB; rw [decide_eq_true CA.out, decide_eq_true CB.out, decide_eq_true q, decide_eq_true q']; simp))
            have g1 : decide ((rd_T79 s0_1 (j : Int)).f0 < (rd_T79 s0_1 ((j - 1 : Nat) : Int)).f0) = false := decide_eq_false (by omega)
            have g2 : ((rd_T79 s0_1 ((j - 1 : Nat) : Int)).f0 == (rd_T79 s0_1 (j : Int)).f0) = true := beq_iff_eq.2 q
            have g3 : decide ((rd_T79 s0_1 (j : Int)).f1 ≤ (rd_T79 s0_1 ((j - 1 : Nat) : Int)).f1) = false := decide_eq_false (by omega)
            clear q q'
            go_wp2
            go_roundw
            case measure => simp only [intOf]; omega
            case rel => exact ⟨j + 1, by omega, by go_num, HM2, Lib.hid (HI3.out.alloc _), Lib.hid (HB3.out.alloc HB3.out.size _), Lib.hid (keep_alloc HK3.out _)⟩
          · have HM2 := Lib.hid (all_step HM.out (show mpB s0_0 s0_1 j = true by unfold mpB aheadB; rw [decide_eq_true CA.out, decide_eq_true CB.out, decide_eq_true q]; simp))
            have g1 : decide ((rd_T79 s0_1 (j : Int)).f0 < (rd_T79 s0_1 ((j - 1 : Nat) : Int)).f0) = false := decide_eq_false (by omega)
            have g2 : ((rd_T79 s0_1 ((j - 1 : Nat) : Int)).f0 == (rd_T79 s0_1 (j : Int)).f0) = false := beq_eq_false_iff_ne.2 (by omega)
            clear q
            go_wp2
            go_roundw
            case measure => simp only [intOf]; omega
            case rel => exact ⟨j + 1, by omega, by go_num, HM2, Lib.hid (HI3.out.alloc _), Lib.hid (HB3.out.alloc HB3.out.size _), Lib.hid (keep_alloc HK3.out _)⟩
        · have hlj2 : ¬ (j : Int) < (s0_1.length : Int) := by omega
          have E := Lib.hid (okB_all HH.out HALL.out (show (List.range s0_1.length).all (mpB s0_0 s0_1) = true by have := HM.out; rw [show j = s0_1.length by omega] at this; exact this))
          go_wp2
          go_ret
          exact ⟨ret_b (E.out.symm.trans R.out), HI2.out, HB2.out, HK2.out⟩
end Go.Proofs.Ytnacfljfalkonaa.Q
