/- spec.l03Ok and spec.l03Value leave all old memory as it was; by hand. -/
import Derived.Test.YtdhhnkhgmoblhaaDoorQhandSpecOk
namespace Go.Proofs.YtdhhnkhgmoblhaaDoor.Q
open Go.RowKit Go.Proofs.YtdhhnkhgmoblhaaDoorW.PrintWords Go.Proofs.YtdhhnkhgmoblhaaDoorW.PrintLast Go.Proofs.YtdhhnkhgmoblhaaDoorW.PrintMore
open Go.Proofs.YtdhhnkhgmoblhaaDoor.Pure
set_option linter.unusedVariables false

set_option maxHeartbeats 4000000 in
set_option maxRecDepth 20000 in
theorem spec_l03Value.callsB (g : Nat) (A0 : Option Addr) (c0 : Nat) (s : List SG) (A1 : Option Addr) (c1 : Nat) (m : List MP) (a1 : Int) (w : World) (hbk : w.heap[g]? = some (.cells #[.slice A0 s.length c0, .slice A1 m.length c1] 30 (0, 0))) (hr0 : Kd.C k56 w A0 s.length s) (hf : fit16 s) (hls : s.length ≤ 1048576) :
    Calls Tryd.prog 50 #[.pointer (some ⟨g, 0, none⟩), .int .u8 a1] w fun e w' => e = .returned (.int .i64 (valB s a1)) ∧ Below w.heap.size w w' := by
  have HBK := Lib.hid hbk
  have HR := Lib.hid hr0
  have HF := Lib.hid hf
  clear hr0 hf hbk
  go_enter Tryd.func50, Tryd.ntmps50
  go_wp2
  go_loopw [5] (fun i wr => ∃ k : Nat, k ≤ s.length ∧ i = .int .i64 k ∧ RowKit.Hid (valB s a1 = valB (s.drop k) a1) ∧ RowKit.Hid (Below w.heap.size w wr)) (fun i _ => s.length - (intOf i).toNat)
  case atStart => exact ⟨0, Nat.zero_le _, rfl, Lib.hid rfl, Lib.hid (Below.refl _ _)⟩
  case round =>
    obtain ⟨k, hk, rfl, HV, HW⟩ := hrel
    have hd0 : wr.cell? ⟨g, 0, none⟩ = some (.slice A0 s.length c0) := (blk_cell (blk_below HBK.out HW.out) 0).trans rfl
    by_cases hlt : k < s.length
    · have hlt2 : (k : Int) < (s.length : Int) := by omega
      obtain ⟨ad, ea, hx, hy⟩ := at_T56 (Kd.C_below HR.out HW.out) (k : Nat) (by omega) (by omega)
      cases ea
      simp only [Int.toNat_natCast] at hx hy
      have hfit := HF.out _ (List.getElem_mem hlt)
      rw [← rdSG_get _ _ hlt] at hfit
      obtain ⟨hfit0, hfit1⟩ := hfit
      have HD := Lib.hid (show valB (s.drop k) a1 = if (rd_T56 s (k : Int)).f0 = a1 then (rd_T56 s (k : Int)).f1 else valB (s.drop (k + 1)) a1 from by rw [List.drop_eq_getElem_cons hlt, valB_cons, rdSG_get _ _ hlt])
      by_cases c : (rd_T56 s (k : Int)).f0 = a1
      · have cb : ((rd_T56 s (k : Int)).f0 == a1) = true := beq_iff_eq.2 c
        have E := Lib.hid (show valB s a1 = (rd_T56 s (k : Int)).f1 from by rw [HV.out, HD.out, if_pos c])
        clear c
        go_wp2
        try go_quiet (fail)
        try go_wp2
        go_ret
        exact ⟨by rw [E.out]; first | rfl | simp, by first | exact HW.out | exact pw_below_drewN HW.out _⟩
      · have cb : ((rd_T56 s (k : Int)).f0 == a1) = false := beq_eq_false_iff_ne.2 c
        have E := Lib.hid (show valB s a1 = valB (s.drop (k + 1)) a1 from by rw [HV.out, HD.out, if_neg c])
        clear c
        go_wp2
        try go_quiet (fail)
        try go_wp2
        go_roundw
        case measure => simp only [intOf]; omega
        case rel => exact ⟨k + 1, by omega, by go_num, E, Lib.hid (by first | exact HW.out | exact pw_below_drewN HW.out _)⟩
    · have hlt2 : ¬ (k : Int) < (s.length : Int) := by omega
      have E := Lib.hid (show valB s a1 = 0 from by rw [HV.out, List.drop_of_length_le (by omega)]; rfl)
      go_wp2
      go_ret
      exact ⟨by rw [E.out]; rfl, HW.out⟩

set_option maxHeartbeats 8000000 in
set_option maxRecDepth 100000 in
theorem spec_l03Ok.callsB (g : Nat) (A0 : Option Addr) (c0 : Nat) (s0_0 : List SG) (A1 : Option Addr) (c1 : Nat) (s0_1 : List MP) (r : Bool) (w : World) (hb : w.heap[g]? = some (.cells #[.slice A0 s0_0.length c0, .slice A1 s0_1.length c1] 30 (0, 0))) (hr0 : Kd.C k56 w A0 s0_0.length s0_0) (hr1 : Kd.C k59 w A1 s0_1.length s0_1) (h : spec_l03Ok.f s0_0 s0_1 = some r) :
    Calls Tryd.prog 25 #[.pointer (some ⟨g, 0, none⟩)] w fun e w' => e = .returned (.bool r) ∧ Below w.heap.size w w' := by
  unfold spec_l03Ok.f at h
  split at h
  rotate_left
  · cases h
  rename_i hbx
  obtain ⟨hls, hlm, hfb⟩ := hbx
  have HF := Lib.hid (fit16_of hfb)
  have R := Lib.hid (Option.some.inj h)
  clear h hfb
  have HB := Lib.hid (Below.refl w.heap.size w)
  have HBK := Lib.hid hb
  have HR0 := Lib.hid hr0
  have HR1 := Lib.hid hr1
  have hc0 : w.cell? ⟨g, 0, none⟩ = some (.slice A0 s0_0.length c0) := (blk_cell HBK.out 0).trans rfl
  have hc1 : w.cell? ⟨g, 1, none⟩ = some (.slice A1 s0_1.length c1) := (blk_cell HBK.out 1).trans rfl
  clear hb hr0 hr1
  by_cases h1 : s0_0.length = 0
  · have hd : (decide ((1 : Int) ≤ (s0_0.length : Int)) && decide ((s0_0.length : Int) ≤ 8)) = false := by simp; omega
    have E := Lib.hid (okB_head (s := s0_0) (m := s0_1) (by unfold headB; simp [h1]))
    clear h1
    go_enter Tryd.func25, Tryd.ntmps25
    go_wp2_with (go_at_call 48; refine (spec_in_is _ _ _ _ _ hd).mono ?_; rintro e w' ⟨rfl, rfl⟩)
    go_ret
    exact ⟨ret_b (E.out.symm.trans R.out), Below.refl _ _⟩
  by_cases h2 : 8 < s0_0.length
  · have hd : (decide ((1 : Int) ≤ (s0_0.length : Int)) && decide ((s0_0.length : Int) ≤ 8)) = false := by simp; omega
    have E := Lib.hid (okB_head (s := s0_0) (m := s0_1) (by unfold headB; simp; omega))
    go_enter Tryd.func25, Tryd.ntmps25
    go_wp2_with (go_at_call 48; refine (spec_in_is _ _ _ _ _ hd).mono ?_; rintro e w' ⟨rfl, rfl⟩)
    go_ret
    exact ⟨ret_b (E.out.symm.trans R.out), Below.refl _ _⟩
  have hd : (decide ((1 : Int) ≤ (s0_0.length : Int)) && decide ((s0_0.length : Int) ≤ 8)) = true := by simp; omega
  by_cases h3 : 8 < s0_1.length
  · have h3d : decide ((8 : Int) < (s0_1.length : Int)) = true := decide_eq_true (by omega)
    have E := Lib.hid (okB_head (s := s0_0) (m := s0_1) (by unfold headB; simp; omega))
    go_enter Tryd.func25, Tryd.ntmps25
    go_wp2_with (go_at_call 48; refine (spec_in_is _ _ _ _ _ hd).mono ?_; rintro e w' ⟨rfl, rfl⟩)
    go_ret
    exact ⟨ret_b (E.out.symm.trans R.out), Below.refl _ _⟩
  have h3d : decide ((8 : Int) < (s0_1.length : Int)) = false := decide_eq_false (by omega)
  have h1i : (1 : Int) ≤ (s0_0.length : Int) := by omega
  have h2i : (s0_0.length : Int) ≤ 8 := by omega
  obtain ⟨ad, rfl, hx0, hx1⟩ := at_T56 (Kd.C_below HR0.out HB.out) ((s0_0.length : Int) - 1) (by omega) (by omega)
  rw [show ((s0_0.length : Int) - 1).toNat = s0_0.length - 1 by omega] at hx0 hx1
  by_cases h4 : (rd_T56 s0_0 ((s0_0.length - 1 : Nat) : Int)).f1 = 1
  rotate_left
  · have h4b : ((rd_T56 s0_0 ((s0_0.length : Int) - 1)).f1 != 1) = true := by rw [show (s0_0.length : Int) - 1 = ((s0_0.length - 1 : Nat) : Int) by omega]; simpa using h4
    have E := Lib.hid (okB_head (s := s0_0) (m := s0_1) (by unfold headB; simp [h4]))
    clear h4
    go_enter Tryd.func25, Tryd.ntmps25
    go_wp2_with (go_at_call 48; refine (spec_in_is _ _ _ _ _ hd).mono ?_; rintro e w' ⟨rfl, rfl⟩)
    go_ret
    exact ⟨ret_b (E.out.symm.trans R.out), Below.refl _ _⟩
  have h4b : ((rd_T56 s0_0 ((s0_0.length : Int) - 1)).f1 != 1) = false := by rw [show (s0_0.length : Int) - 1 = ((s0_0.length - 1 : Nat) : Int) by omega]; simpa using h4
  have HH := Lib.hid (show headB s0_0 s0_1 = true by unfold headB; simp [h4]; omega)
  clear h4
  go_enter Tryd.func25, Tryd.ntmps25
  go_wp2_with (go_at_call 48; refine (spec_in_is _ _ _ _ _ hd).mono ?_; rintro e w' ⟨rfl, rfl⟩)
  go_loopw [4] (fun i wr => ∃ k : Nat, k ≤ s0_0.length ∧ i = .int .i64 k ∧ RowKit.Hid ((List.range k).all (sgB s0_0) = true) ∧ RowKit.Hid (Below w.heap.size w wr)) (fun i _ => s0_0.length - (intOf i).toNat)
  case atStart => exact ⟨0, Nat.zero_le _, rfl, Lib.hid rfl, Lib.hid (Below.refl _ _)⟩
  case round =>
    obtain ⟨k, hk, rfl, HA, HW⟩ := hrel
    clear hx0 hx1 h4b
    have HW0 := Lib.hid (below_then HB.out HB.out.size HW.out)
    have hBK2 := Lib.hid ((HW.out.block g (blk_lt HBK.out)).trans HBK.out)
    have hd0 : wr.cell? ⟨g, 0, none⟩ = some (.slice (some ad) s0_0.length c0) := (blk_cell hBK2.out 0).trans rfl
    have hd1 : wr.cell? ⟨g, 1, none⟩ = some (.slice A1 s0_1.length c1) := (blk_cell hBK2.out 1).trans rfl
    by_cases hlt : k < s0_0.length
    · have hlt2 : (k : Int) < (s0_0.length : Int) := by omega
      obtain ⟨ad2, ea, hx, hy⟩ := at_T56 (Kd.C_below HR0.out HW0.out) (k : Nat) (by omega) (by omega)
      cases ea
      simp only [Int.toNat_natCast] at hx hy
      have hfit := HF.out _ (List.getElem_mem hlt)
      rw [← rdSG_get _ _ hlt] at hfit
      obtain ⟨hfit0, hfit1⟩ := hfit
      have Hx := Lib.hid hx
      have Hy := Lib.hid hy
      by_cases c1 : letB (rd_T56 s0_0 (k : Int)).f0 = true
      rotate_left
      · have L := Lib.hid (show letB (rd_T56 s0_0 (k : Int)).f0 = false by simpa using c1)
        have E := Lib.hid (okB_sg (m := s0_1) k hlt (by unfold sgB; rw [L.out]; simp))
        clear c1
        go_wp2
        go_quiet ((first | (go_at_call 49; exact Calls.quiet_of_same (spec_letter_q _ _ _ L.out)) | (go_at_call 48; exact Calls.quiet_of_same (spec_in_q _ _ _ _ _ hd))))
        go_wp2
        go_ret
        exact ⟨ret_b (E.out.symm.trans R.out), pw_below_drewN HW0.out _⟩
      have L := Lib.hid c1
      clear c1
      by_cases c2 : rngB (rd_T56 s0_0 (k : Int)).f1 = true
      rotate_left
      · have G := Lib.hid (show (decide ((1 : Int) ≤ (rd_T56 s0_0 (k : Int)).f1) && decide ((rd_T56 s0_0 (k : Int)).f1 ≤ 5000)) = false by simpa [rngB] using c2)
        have E := Lib.hid (okB_sg (m := s0_1) k hlt (by unfold sgB; rw [show rngB (rd_T56 s0_0 (k : Int)).f1 = false from G.out]; simp))
        clear c2
        go_wp2
        go_quiet ((first | (go_at_call 49; exact Calls.quiet_of_same (spec_letter_q _ _ _ L.out)) | (go_at_call 48; exact Calls.quiet_of_same (spec_in_q _ _ _ _ _ G.out))))
        go_wp2
        go_ret
        exact ⟨ret_b (E.out.symm.trans R.out), pw_below_drewN HW0.out _⟩
      have G := Lib.hid (show (decide ((1 : Int) ≤ (rd_T56 s0_0 (k : Int)).f1) && decide ((rd_T56 s0_0 (k : Int)).f1 ≤ 5000)) = true from c2)
      clear c2
      have hcase : k = 0 ∨ (0 < k ∧ (rd_T56 s0_0 (k : Int)).f1 < (rd_T56 s0_0 ((k - 1 : Nat) : Int)).f1) ∨ (0 < k ∧ ¬ (rd_T56 s0_0 (k : Int)).f1 < (rd_T56 s0_0 ((k - 1 : Nat) : Int)).f1) := by omega
      rcases hcase with hz | ⟨hz, c3⟩ | ⟨hz, c3⟩
      rotate_left
      rotate_left
      · have E := Lib.hid (okB_sg (m := s0_1) k hlt (by unfold sgB; rw [decide_eq_false c3, decide_eq_false (show ¬ k = 0 by omega)]; simp))
        have hz1 : decide ((0 : Int) < (k : Int)) = true := decide_eq_true (by omega)
        have hz2 : decide (0 < k) = true := decide_eq_true hz
        obtain ⟨ad3, ea, hp, hq⟩ := at_T56 (Kd.C_below HR0.out HW0.out) ((k - 1 : Nat) : Int) (by omega) (by omega)
        cases ea
        simp only [Int.toNat_natCast] at hp hq
        have hge : decide ((rd_T56 s0_0 ((k - 1 : Nat) : Int)).f1 ≤ (rd_T56 s0_0 (k : Int)).f1) = true := decide_eq_true (by omega)
        have e1 : (k : Int) - 1 = ((k - 1 : Nat) : Int) := by omega
        have w1 : IntKind.i64.wrap ((k : Int) - 1) = ((k - 1 : Nat) : Int) := by rw [← e1]; exact IntWalk.i64_in _ (by omega)
        have w2 : ((k - 1 : Nat) : Int) < (s0_0.length : Int) := by omega
        clear c3 e1
        go_wp2
        go_quiet ((first | (go_at_call 49; exact Calls.quiet_of_same (spec_letter_q _ _ _ L.out)) | (go_at_call 48; exact Calls.quiet_of_same (spec_in_q _ _ _ _ _ G.out))))
        go_wp2
        go_ret
        exact ⟨ret_b (E.out.symm.trans R.out), pw_below_drewN HW0.out _⟩
      focus
        have HS := Lib.hid (show dupB s0_0 k = false → sgB s0_0 k = true from fun hd => by unfold sgB; rw [L.out, show rngB (rd_T56 s0_0 (k : Int)).f1 = true from G.out, hd, decide_eq_true hz]; rfl)
        have hz1 : decide ((0 : Int) < (k : Int)) = false := decide_eq_false (by omega)
        have hz2 : decide (0 < k) = false := decide_eq_false (by omega)
        clear hz
        go_wp2
        go_quiet ((first | (go_at_call 49; exact Calls.quiet_of_same (spec_letter_q _ _ _ L.out)) | (go_at_call 48; exact Calls.quiet_of_same (spec_in_q _ _ _ _ _ G.out))))
        go_wp2
      rotate_left
      focus
        have HS := Lib.hid (show dupB s0_0 k = false → sgB s0_0 k = true from fun hd => by unfold sgB; rw [L.out, show rngB (rd_T56 s0_0 (k : Int)).f1 = true from G.out, hd, decide_eq_true c3]; simp)
        have hz1 : decide ((0 : Int) < (k : Int)) = true := decide_eq_true (by omega)
        have hz2 : decide (0 < k) = true := decide_eq_true hz
        obtain ⟨ad3, ea, hp, hq⟩ := at_T56 (Kd.C_below HR0.out HW0.out) ((k - 1 : Nat) : Int) (by omega) (by omega)
        cases ea
        simp only [Int.toNat_natCast] at hp hq
        have hge : decide ((rd_T56 s0_0 ((k - 1 : Nat) : Int)).f1 ≤ (rd_T56 s0_0 (k : Int)).f1) = false := decide_eq_false (by omega)
        have e1 : (k : Int) - 1 = ((k - 1 : Nat) : Int) := by omega
        have w1 : IntKind.i64.wrap ((k : Int) - 1) = ((k - 1 : Nat) : Int) := by rw [← e1]; exact IntWalk.i64_in _ (by omega)
        have w2 : ((k - 1 : Nat) : Int) < (s0_0.length : Int) := by omega
        clear c3 e1
        go_wp2
        go_quiet ((first | (go_at_call 49; exact Calls.quiet_of_same (spec_letter_q _ _ _ L.out)) | (go_at_call 48; exact Calls.quiet_of_same (spec_in_q _ _ _ _ _ G.out))))
        clear hp hq hge w1 w2 hz
        go_wp2
      all_goals
        clear Hx Hy hx hy hfit0 hfit1
        go_loopw [5] (fun i wr2 => ∃ j : Nat, j ≤ k ∧ i = .int .i64 j ∧ RowKit.Hid ((s0_0.take j).any (fun y => decide (y.f0 = (rd_T56 s0_0 (k : Int)).f0)) = false) ∧ RowKit.Hid (Below w.heap.size w wr2)) (fun i _ => k - (intOf i).toNat)
        case atStart => exact ⟨0, Nat.zero_le _, rfl, Lib.hid (by simp), Lib.hid (pw_below_drewN HW.out _)⟩
        case round =>
          obtain ⟨j, hj, rfl, HD, HV⟩ := hrel
          have HV0 := Lib.hid (below_then HB.out HB.out.size HV.out)
          have HBV := Lib.hid ((HV.out.block g (blk_lt HBK.out)).trans HBK.out)
          have hv0 : wr.cell? ⟨g, 0, none⟩ = some (.slice (some ad) s0_0.length c0) := (blk_cell HBV.out 0).trans rfl
          by_cases hjk : j < k
          · have hjk2 : (j : Int) < (k : Int) := by omega
            have hjn : (j : Int) < (s0_0.length : Int) := by omega
            obtain ⟨ad3, ea, hp, hq⟩ := at_T56 (Kd.C_below HR0.out HV0.out) (k : Nat) (by omega) (by omega)
            cases ea
            obtain ⟨ad4, ea, hp2, hq2⟩ := at_T56 (Kd.C_below HR0.out HV0.out) (j : Nat) (by omega) (by omega)
            cases ea
            simp only [Int.toNat_natCast] at hp hp2
            clear hq hq2
            by_cases e : (rd_T56 s0_0 (j : Int)).f0 = (rd_T56 s0_0 (k : Int)).f0
            · have ht : ((rd_T56 s0_0 (j : Int)).f0 == (rd_T56 s0_0 (k : Int)).f0) = true := beq_iff_eq.2 e
              have E := Lib.hid (okB_sg (m := s0_1) k hlt (by unfold sgB; rw [dupB_hit hjk hlt e]; simp))
              clear e
              go_wp2
              go_quiet (fail)
              go_wp2
              go_ret
              exact ⟨ret_b (E.out.symm.trans R.out), pw_below_drewN HV0.out _⟩
            · have ht : ((rd_T56 s0_0 (j : Int)).f0 == (rd_T56 s0_0 (k : Int)).f0) = false := beq_eq_false_iff_ne.2 e
              have NE := Lib.hid e
              clear e
              go_wp2
              go_quiet (fail)
              go_wp2
              go_roundw
              case measure => simp only [intOf]; omega
              case rel => exact ⟨j + 1, by omega, by go_num, Lib.hid (dupB_step hjk hlt HD.out NE.out), Lib.hid (pw_below_drewN HV.out _)⟩
          · have EJ : j = k := by omega
            have HSG := Lib.hid (HS.out (by have := HD.out; rw [EJ] at this; exact this))
            have hjk2 : ¬ (j : Int) < (k : Int) := by omega
            clear EJ
            go_wp2
            go_roundw
            case measure => simp only [intOf]; omega
            case rel => exact ⟨k + 1, by omega, by go_num, Lib.hid (all_step HA.out HSG.out), HV⟩
    · have hlt2 : ¬ (k : Int) < (s0_0.length : Int) := by omega
      have HALL := Lib.hid (show (List.range s0_0.length).all (sgB s0_0) = true by have := HA.out; rw [show k = s0_0.length by omega] at this; exact this)
      go_wp2
      go_loopw [6] (fun i wr2 => ∃ j : Nat, j ≤ s0_1.length ∧ i = .int .i64 j ∧ RowKit.Hid ((List.range j).all (mpB s0_0 s0_1) = true) ∧ RowKit.Hid (Below w.heap.size w wr2)) (fun i _ => s0_1.length - (intOf i).toNat)
      case atStart => exact ⟨0, Nat.zero_le _, rfl, Lib.hid rfl, HW⟩
      case round =>
        obtain ⟨j, hj, rfl, HM, HW2⟩ := hrel
        clear hd0 hd1
        have HBK' := Lib.hid (blk_below HBK.out HW2.out)
        have hv1 : wr.cell? ⟨g, 1, none⟩ = some (.slice A1 s0_1.length c1) := (blk_cell HBK'.out 1).trans rfl
        by_cases hlj : j < s0_1.length
        · have hlj2 : (j : Int) < (s0_1.length : Int) := by omega
          obtain ⟨ad3, ea, hp, hq⟩ := at_T59 (Kd.C_below HR1.out HW2.out) (j : Nat) (by omega) (by omega)
          cases ea
          simp only [Int.toNat_natCast] at hp hq
          have NEG := Lib.hid (show wr.heap.size ≠ g by have := blk_lt HBK'.out; omega)
          have VA := Lib.hid (fun c => spec_l03Value.val s0_0 s0_1 c hls HF.out (s0_0.length + 1) (by omega))
          go_wp2_with fail
          (with_reducible refine (spec_l03Value.callsB g _ c0 s0_0 _ c1 s0_1 (rd_T59 s0_1 (j : Int)).f0 _ (blk_alloc HBK'.out _) (Kd.C_alloc (Kd.C_below HR0.out HW2.out) _) HF.out hls).mono ?_)
          rintro e w1 ⟨rfl, hB1⟩
          have K1 := Lib.hid (blk_below (blk_alloc HBK'.out _) hB1)
          have HB1 := Lib.hid (below_step (below_alloc HW2.out _) hB1)
          have HX1 := Lib.hid (blk_below (heap_alloc_new wr _) hB1)
          have hx1b : w1.cell? ⟨wr.heap.size, 1, none⟩ = some (.int .u8 (rd_T59 s0_1 (j : Int)).f1) := (blk_cell HX1.out 1).trans rfl
          clear hB1
          go_wp2_with fail
          (with_reducible refine (spec_l03Value.callsB g _ c0 s0_0 _ c1 s0_1 (rd_T59 s0_1 (j : Int)).f1 _ K1.out (Kd.C_below HR0.out HB1.out) HF.out hls).mono ?_)
          rintro e w2 ⟨rfl, hB3⟩
          have K3 := Lib.hid (blk_below K1.out hB3)
          have HX2 := Lib.hid (blk_below HX1.out hB3)
          have HB3 := Lib.hid (below_step HB1.out hB3)
          clear hB3 hx1b hv1 hp hq
          by_cases ca : valB s0_0 (rd_T59 s0_1 (j : Int)).f0 = 0
          · have t1 : (valB s0_0 (rd_T59 s0_1 (j : Int)).f0 == 0) = true := beq_iff_eq.2 ca
            have E := Lib.hid (okB_mp (s := s0_0) j hlj (by unfold mpB; rw [ca]; simp))
            clear ca
            go_wp2
            go_ret
            exact ⟨ret_b (E.out.symm.trans R.out), HB3.out⟩
          have t1 : (valB s0_0 (rd_T59 s0_1 (j : Int)).f0 == 0) = false := beq_eq_false_iff_ne.2 ca
          have CA := Lib.hid ca
          clear ca
          by_cases cb : valB s0_0 (rd_T59 s0_1 (j : Int)).f0 < valB s0_0 (rd_T59 s0_1 (j : Int)).f1
          rotate_left
          · have t2 : decide (valB s0_0 (rd_T59 s0_1 (j : Int)).f1 ≤ valB s0_0 (rd_T59 s0_1 (j : Int)).f0) = true := decide_eq_true (by omega)
            have E := Lib.hid (okB_mp (s := s0_0) j hlj (by unfold mpB; rw [decide_eq_false cb]; simp))
            clear cb
            go_wp2
            go_ret
            exact ⟨ret_b (E.out.symm.trans R.out), HB3.out⟩
          have t2 : decide (valB s0_0 (rd_T59 s0_1 (j : Int)).f1 ≤ valB s0_0 (rd_T59 s0_1 (j : Int)).f0) = false := decide_eq_false (by omega)
          have CB := Lib.hid cb
          clear cb
          by_cases hz : 0 < j
          rotate_left
          · have HM2 := Lib.hid (all_step HM.out (show mpB s0_0 s0_1 j = true by unfold mpB; rw [decide_eq_true CA.out, decide_eq_true CB.out, decide_eq_true (show j = 0 by omega)]; rfl))
            have hz1 : decide ((0 : Int) < (j : Int)) = false := decide_eq_false (by omega)
            have hz2 : decide (0 < j) = false := decide_eq_false hz
            clear hz
            go_wp2
            go_roundw
            case measure => simp only [intOf]; omega
            case rel => exact ⟨j + 1, by omega, by go_num, HM2, HB3⟩
          have hz1 : decide ((0 : Int) < (j : Int)) = true := decide_eq_true (by omega)
          have hz2 : decide (0 < j) = true := decide_eq_true hz
          obtain ⟨ad5, ea, hp5, hq5⟩ := at_T59 (Kd.C_below HR1.out HB3.out) ((j - 1 : Nat) : Int) (by omega) (by omega)
          cases ea
          have hv5 : w2.cell? ⟨g, 1, none⟩ = some (.slice (some ad3) s0_1.length c1) := (blk_cell K3.out 1).trans rfl
          simp only [Int.toNat_natCast] at hp5 hq5
          have e1 : (j : Int) - 1 = ((j - 1 : Nat) : Int) := by omega
          have hx20 : w2.cell? ⟨wr.heap.size, 0, none⟩ = some (.int .u8 (rd_T59 s0_1 (j : Int)).f0) := (blk_cell HX2.out 0).trans rfl
          have hx21 : w2.cell? ⟨wr.heap.size, 1, none⟩ = some (.int .u8 (rd_T59 s0_1 (j : Int)).f1) := (blk_cell HX2.out 1).trans rfl
          have hsz : wr.heap.size < w2.heap.size := (Array.getElem?_eq_some_iff.1 HX2.out).1
          have hcs : (rd_T59 s0_1 (j : Int)).f0 < (rd_T59 s0_1 ((j - 1 : Nat) : Int)).f0 ∨ ((rd_T59 s0_1 ((j - 1 : Nat) : Int)).f0 = (rd_T59 s0_1 (j : Int)).f0 ∧ (rd_T59 s0_1 (j : Int)).f1 ≤ (rd_T59 s0_1 ((j - 1 : Nat) : Int)).f1) ∨ ((rd_T59 s0_1 ((j - 1 : Nat) : Int)).f0 = (rd_T59 s0_1 (j : Int)).f0 ∧ (rd_T59 s0_1 ((j - 1 : Nat) : Int)).f1 < (rd_T59 s0_1 (j : Int)).f1) ∨ (rd_T59 s0_1 ((j - 1 : Nat) : Int)).f0 < (rd_T59 s0_1 (j : Int)).f0 := by omega
          rcases hcs with q | ⟨q, q'⟩ | ⟨q, q'⟩ | q
          · have E := Lib.hid (okB_mp (s := s0_0) j hlj (by unfold mpB aheadB; rw [decide_eq_false (show ¬ j = 0 by omega), decide_eq_false (show ¬ (rd_T59 s0_1 ((j - 1 : Nat) : Int)).f0 < (rd_T59 s0_1 (j : Int)).f0 by omega), decide_eq_false (show ¬ (rd_T59 s0_1 ((j - 1 : Nat) : Int)).f0 = (rd_T59 s0_1 (j : Int)).f0 by omega)]; simp))
            have g1 : decide ((rd_T59 s0_1 (j : Int)).f0 < (rd_T59 s0_1 ((j - 1 : Nat) : Int)).f0) = true := decide_eq_true q
            clear q
            go_wp2
            go_ret
            exact ⟨ret_b (E.out.symm.trans R.out), below_alloc HB3.out _⟩
          · have E := Lib.hid (okB_mp (s := s0_0) j hlj (by unfold mpB aheadB; rw [decide_eq_false (show ¬ j = 0 by omega), decide_eq_false (show ¬ (rd_T59 s0_1 ((j - 1 : Nat) : Int)).f0 < (rd_T59 s0_1 (j : Int)).f0 by omega), decide_eq_false (show ¬ (rd_T59 s0_1 ((j - 1 : Nat) : Int)).f1 < (rd_T59 s0_1 (j : Int)).f1 by omega)]; simp))
            have g1 : decide ((rd_T59 s0_1 (j : Int)).f0 < (rd_T59 s0_1 ((j - 1 : Nat) : Int)).f0) = false := decide_eq_false (by omega)
            have g2 : ((rd_T59 s0_1 ((j - 1 : Nat) : Int)).f0 == (rd_T59 s0_1 (j : Int)).f0) = true := beq_iff_eq.2 q
            have g3 : decide ((rd_T59 s0_1 (j : Int)).f1 ≤ (rd_T59 s0_1 ((j - 1 : Nat) : Int)).f1) = true := decide_eq_true q'
            clear q q'
            go_wp2
            go_ret
            exact ⟨ret_b (E.out.symm.trans R.out), below_alloc HB3.out _⟩
          · have HM2 := Lib.hid (all_step HM.out (show mpB s0_0 s0_1 j = true by unfold mpB aheadB; rw [decide_eq_true CA.out, decide_eq_true CB.out, decide_eq_true q, decide_eq_true q']; simp))
            have g1 : decide ((rd_T59 s0_1 (j : Int)).f0 < (rd_T59 s0_1 ((j - 1 : Nat) : Int)).f0) = false := decide_eq_false (by omega)
            have g2 : ((rd_T59 s0_1 ((j - 1 : Nat) : Int)).f0 == (rd_T59 s0_1 (j : Int)).f0) = true := beq_iff_eq.2 q
            have g3 : decide ((rd_T59 s0_1 (j : Int)).f1 ≤ (rd_T59 s0_1 ((j - 1 : Nat) : Int)).f1) = false := decide_eq_false (by omega)
            clear q q'
            go_wp2
            go_roundw
            case measure => simp only [intOf]; omega
            case rel => exact ⟨j + 1, by omega, by go_num, HM2, Lib.hid (below_alloc HB3.out _)⟩
          · have HM2 := Lib.hid (all_step HM.out (show mpB s0_0 s0_1 j = true by unfold mpB aheadB; rw [decide_eq_true CA.out, decide_eq_true CB.out, decide_eq_true q]; simp))
            have g1 : decide ((rd_T59 s0_1 (j : Int)).f0 < (rd_T59 s0_1 ((j - 1 : Nat) : Int)).f0) = false := decide_eq_false (by omega)
            have g2 : ((rd_T59 s0_1 ((j - 1 : Nat) : Int)).f0 == (rd_T59 s0_1 (j : Int)).f0) = false := beq_eq_false_iff_ne.2 (by omega)
            clear q
            go_wp2
            go_roundw
            case measure => simp only [intOf]; omega
            case rel => exact ⟨j + 1, by omega, by go_num, HM2, Lib.hid (below_alloc HB3.out _)⟩
        · have hlj2 : ¬ (j : Int) < (s0_1.length : Int) := by omega
          have E := Lib.hid (okB_all HH.out HALL.out (show (List.range s0_1.length).all (mpB s0_0 s0_1) = true by have := HM.out; rw [show j = s0_1.length by omega] at this; exact this))
          go_wp2
          go_ret
          exact ⟨ret_b (E.out.symm.trans R.out), HW2.out⟩
end Go.Proofs.YtdhhnkhgmoblhaaDoor.Q
