/- impl.SureLetters by hand. -/
import Derived.Test.YtdhhnkhgmoblhaaDoorQhandSure
namespace Go.Proofs.YtdhhnkhgmoblhaaDoor.Q
open Go.RowKit Go.Proofs.YtdhhnkhgmoblhaaDoorW.PrintWords Go.Proofs.YtdhhnkhgmoblhaaDoorW.PrintLast Go.Proofs.YtdhhnkhgmoblhaaDoorW.PrintMore
open Go.Proofs.YtdhhnkhgmoblhaaDoor.Pure Go.Proofs.YtdhhnkhgmoblhaaDoor.Bytes
set_option linter.unusedVariables false
set_option linter.unusedSimpArgs false

theorem readI_len (s : List SG) (m : List MP) (t : ByteArray) (h : (readI s m t).2 = 0) : (readI s m t).1.length ≤ 501 := by
  have := readS_len' s m t
  rw [readings_same, if_pos h] at this
  exact this
set_option maxRecDepth 20000 in
set_option maxHeartbeats 4000000 in
theorem impl_SureLetters.callsT (A0 : Option Addr) (c0 : Nat) (s : List SG) (A1 : Option Addr) (c1 : Nat) (m : List MP) (worn : ByteArray) (w : World) (hG : Glob w) (hr0 : Kd.C k56 w A0 s.length s) (hc0 : s.length ≤ c0) (hr1 : Kd.C k59 w A1 m.length m) (hc1 : m.length ≤ c1) (hf : bigR s m worn) :
    Calls Tryd.prog 13 #[.agg #[.slice A0 s.length c0, .slice A1 m.length c1], .string worn] w fun e w' => e = .returned (.tuple #[.string (sureS s m worn).1, .int .i64 (sureS s m worn).2]) ∧ Below w.heap.size w w' := by
  have HB01 := Lib.hid (below_alloc (Below.refl w.heap.size w) (.cells #[.slice A0 s.length c0, .slice A1 m.length c1] 30))
  have K0 := Lib.hid (heap_alloc_new w (.cells #[.slice A0 s.length c0, .slice A1 m.length c1] 30))
  have HRL := Lib.hid (readI_len s m worn)
  have HSZ := Lib.hid (readI_size (s := s) (m := m) (worn := worn))
  have HC := Lib.hid (impl_readings.callsT A0 c0 s A1 c1 m worn (w.alloc (.cells #[.slice A0 s.length c0, .slice A1 m.length c1] 30)) (hG.step HB01.out) (Kd.C_below hr0 HB01.out) hc0 (Kd.C_below hr1 HB01.out) hc1 hf)
  have HSAME := Lib.hid (readings_same s m worn)
  have hws : worn.size ≤ 1048576 := hf.2.2.2
  obtain ⟨res, hres⟩ : ∃ res, res = sureS s m worn := ⟨_, rfl⟩
  rw [← hres]
  unfold sureS at hres
  rw [HSAME.out] at hres
  obtain ⟨ri, hri⟩ : ∃ ri, ri = readI s m worn := ⟨_, rfl⟩
  rw [← hri] at HC HSZ HRL hres
  obtain ⟨l, rc⟩ := ri
  dsimp only at HC HSZ HRL hres
  have z0 : (w.alloc (.cells #[.slice A0 s.length c0, .slice A1 m.length c1] 30)).cell? ⟨w.heap.size, 0, none⟩ = some (.slice A0 s.length c0) := (blk_cell K0.out 0).trans rfl
  have z1 : (w.alloc (.cells #[.slice A0 s.length c0, .slice A1 m.length c1] 30)).cell? ⟨w.heap.size, 1, none⟩ = some (.slice A1 m.length c1) := (blk_cell K0.out 1).trans rfl
  clear hG hr0 hr1 hf hri HSAME
  by_cases h0 : rc = 0
  rotate_left
  · have d1 : (rc == 0) = false := beq_eq_false_iff_ne.2 h0
    have d2 : decide (rc = 0) = false := decide_eq_false h0
    have d3 : (rc != 0) = true := by rw [bne, d1]; rfl
    rw [if_neg h0] at hres
    subst hres
    clear h0
    go_enter Tryd.func13, Tryd.ntmps13
    go_wp2_with (go_at_call 35; (with_reducible refine HC.out.mono ?_); rintro e w4 ⟨v1, rfl, hR, hb⟩; obtain ⟨AL, cl, eL⟩ := Kd.R_slice hR; subst eL; have HB4 := Lib.hid hb; clear hR hb)
    go_ret2
    exact ⟨rfl, below_alloc (below_step HB01.out HB4.out) _⟩
  · subst h0
    rw [if_pos rfl, if_pos rfl] at hres
    have L501 := HRL.out rfl
    clear HRL
    by_cases hl : l = []
    · subst hl
      rw [if_pos rfl] at hres
      subst hres
      go_enter Tryd.func13, Tryd.ntmps13
      go_wp2_with (go_at_call 35; (with_reducible refine HC.out.mono ?_); rintro e w4 ⟨v1, rfl, hR, hb⟩; obtain ⟨AL, cl, eL⟩ := Kd.R_slice hR; subst eL; have HRX := Lib.hid hR; have HB4 := Lib.hid hb; clear hR hb)
      go_ret2
      exact ⟨rfl, below_alloc (below_step HB01.out HB4.out) _⟩
    · rw [if_neg hl] at hres
      have HRES := Lib.hid hres
      clear hres
      obtain ⟨nl, hnl⟩ : ∃ nl, nl = l.length := ⟨_, rfl⟩
      have hpos : 0 < nl := by rw [hnl]; exact List.length_pos_iff.2 hl
      have HNL := Lib.hid hnl
      have hlz : ((nl : Int) == 0) = false := by simp; omega
      have hlz2 : ¬ (nl : Int) = 0 := by omega
      rw [← hnl] at L501
      clear hl hnl
      have hcv := fun W => Lib.run_convert_string_bytes (P := Tryd.prog) W 9 57 5 worn (u := .string) Tryd.underlying9 Tryd.underlying57 Tryd.underlying5
      have HX0 := Lib.hid (show rdOf ByteArray.empty l 0 ∈ l from by rw [show (0 : Int) = ((0 : Nat) : Int) from rfl, rdOf_get _ _ _ (by rw [← HNL.out]; exact hpos)]; exact List.getElem_mem _)
      obtain ⟨x0, hx0⟩ : ∃ x, x = rdOf ByteArray.empty l 0 := ⟨_, rfl⟩
      have E0 := Lib.hid hx0
      rw [← hx0] at HX0 HRES
      clear hx0
      go_enter Tryd.func13, Tryd.ntmps13
      go_wp2_with (go_at_call 35; (with_reducible refine HC.out.mono ?_); rintro e w4 ⟨v1, rfl, hR, hb⟩; obtain ⟨AL, cl, eL⟩ := Kd.R_slice hR; rw [← HNL.out] at eL; subst eL; have HRX := Lib.hid hR; have HB4 := Lib.hid hb; clear hR hb)
      have HB5 := Lib.hid (below_alloc (below_step HB01.out HB4.out) (.cells #[.slice AL nl cl] 37))
      have K5 := Lib.hid (heap_alloc_new w4 (.cells #[.slice AL nl cl] 37))
      have HRX2 := Lib.hid (Kd.R_alloc (Kd.R_mono (Kd.R_bound HRX.out) (fun k hk => (hk.2.2.1 : k < w4.heap.size))) (.cells #[.slice AL nl cl] 37))
      obtain ⟨w5, hw5⟩ : ∃ w5, w5 = w4.alloc (.cells #[.slice AL nl cl] 37) := ⟨_, rfl⟩
      have HS5 := Lib.hid (show w5.heap.size = w4.heap.size + 1 from by rw [hw5]; simp)
      rw [← hw5] at HB5 K5 HRX2 ⊢
      have HG4 := Lib.hid (show w.heap.size ≤ w4.heap.size from Nat.le_trans HB01.out.size HB4.out.size)
      clear hw5
      go_loopw [28] (fun i wr => ∃ j : Nat, j ≤ worn.size ∧ i = .int .i64 j ∧ RowKit.Hid (BRow 5 wr (w4.heap.size + 1) (grownCap w5 worn.size 0 5) (outG (fB l x0 worn) worn j)) ∧ RowKit.Hid (wr.heap[w4.heap.size]? = some (.cells #[.slice AL nl cl] 37 (0, 0))) ∧ RowKit.Hid (Kd.R Kd.string 9 wr (w.alloc (.cells #[.slice A0 s.length c0, .slice A1 m.length c1] 30)).heap.size (fun k => k < w4.heap.size) (.slice AL nl cl) l) ∧ RowKit.Hid (Below w.heap.size w wr)) (fun i _ => worn.size - (intOf i).toNat)
      case atStart => exact ⟨0, Nat.zero_le _, rfl, Lib.hid (by rw [outG_zero, ← HS5.out]; exact made w5 _ worn (grownCap_ge w5 worn.size 0 _)), Lib.hid (blk_below K5.out (below_bytes w5 _ worn)), Lib.hid (Kd.R_below HRX2.out (below_bytes w5 _ worn)), Lib.hid (below_step HB5.out (below_bytes w5 _ worn))⟩
      case round =>
        obtain ⟨j, hj, rfl, HBR, HK, HL, HB⟩ := hrel
        by_cases hlt : j < worn.size
        · obtain ⟨ad, ea, hx0⟩ := Kd.at_string (Kd.R_reads' HL.out).2.2 0 (by omega) (by have := HNL.out; omega)
          cases ea
          clear hx0
          have hlt0 : j < x0.size := by rw [(HSZ.out _ HX0.out).1]; exact hlt
          have HOL := Lib.hid (outG_len (fB l x0 worn) worn j)
          have HCF := Lib.hid (show Calls Tryd.prog 36 #[.slice (some ad) nl cl, .func (.func 37) #[] #[.pointer (some ⟨wr.heap.size, 0, none⟩), .pointer (some ⟨w4.heap.size, 0, none⟩)]] (wr.alloc (.cells #[.int .i64 j] 3)) fun e w' => e = .returned (.bool (l.any (fun x => !pB x0 j x))) ∧ Below (wr.alloc (.cells #[.int .i64 j] 3)).heap.size (wr.alloc (.cells #[.int .i64 j] 3)) w' from by
            have h0 := contains_func_string 37 #[.pointer (some ⟨wr.heap.size, 0, none⟩), .pointer (some ⟨w4.heap.size, 0, none⟩)] (fun x => !pB x0 j x) l (some ad) cl (wr.alloc (.cells #[.int .i64 j] 3)) (enters_of Tryd.func37 (by kernel_rfl) rfl) (Kd.R_reads' (Kd.R_alloc HL.out (.cells #[.int .i64 j] 3))).2.2 (fun x hx W hW => by
              have hC := Kd.C_below (Kd.R_reads' (Kd.R_alloc HL.out (.cells #[.int .i64 j] 3))).2.2 hW
              obtain ⟨ad2, ea, hc⟩ := Kd.at_string hC 0 (by omega) (by have := HNL.out; omega)
              cases ea
              rw [← E0.out, Int.toNat_zero, show ad.add 0 = ad from if_pos rfl] at hc
              have hz := (HSZ.out x hx)
              exact (impl_Sure1.calls wr.heap.size w4.heap.size ad cl nl j x x0 W ((blk_cell (blk_below (heap_alloc_new wr _) hW) 0).trans rfl) ((blk_cell (blk_below (blk_alloc HK.out _) hW) 0).trans rfl) hc hpos (by omega) hlt0 (by omega)).mono (fun _ _ h => ⟨h.1, below_step hW h.2⟩))
            rw [← HNL.out] at h0
            exact h0)
          have HANY := Lib.hid (show l.any (fun x => !pB x0 j x) = !(l.all (pB x0 j)) from by rw [List.not_all_eq_any_not])
          rw [HANY.out] at HCF
          obtain ⟨fl, hfl⟩ : ∃ fl, fl = l.all (pB x0 j) := ⟨_, rfl⟩
          rw [← hfl] at HCF
          have HFL := Lib.hid hfl
          clear hfl
          have hcl : (wr.alloc (.cells #[.int .i64 j] 3)).cell? ⟨w4.heap.size, 0, none⟩ = some (.slice (some ad) nl cl) := (blk_cell (blk_alloc HK.out _) 0).trans rfl
          cases fl with
          | false =>
            have HFB := Lib.hid (show fB l x0 worn j = bt worn j from by unfold fB; rw [← HFL.out]; rfl)
            go_wp2_with (go_at_call 36; (with_reducible refine HCF.out.mono ?_); rintro e w7 ⟨rfl, hb⟩; have HW7 := Lib.hid (show Below wr.heap.size wr w7 from below_step (below_alloc (Below.refl _ _) _) hb); clear hb)
            go_roundw
            case measure => simp only [intOf]; omega
            case rel => exact ⟨j + 1, by omega, by go_num, Lib.hid (by rw [outG_same _ _ _ hlt HFB.out]; exact HBR.out.below HW7.out), Lib.hid (blk_below HK.out HW7.out), Lib.hid (Kd.R_below HL.out HW7.out), Lib.hid (below_step HB.out HW7.out)⟩
          | true =>
            have HFB := Lib.hid (show fB l x0 worn j = bt x0 j from by unfold fB; rw [← HFL.out]; rfl)
            have hy0 := bt_at x0 j
            simp only [Int.toNat_natCast] at hy0
            go_wp2_with (go_at_call 36; (with_reducible refine HCF.out.mono ?_); rintro e w7 ⟨rfl, hb⟩; have HW7 := Lib.hid (show Below wr.heap.size wr w7 from below_step (below_alloc (Below.refl _ _) _) hb); have hq1 : w7.drew.cell? ⟨wr.heap.size, 0, none⟩ = some (.int .i64 j) := (blk_cell (blk_below (heap_alloc_new wr _) hb) 0).trans rfl; have hq2 : w7.drew.cell? ⟨w4.heap.size, 0, none⟩ = some (.slice (some ad) nl cl) := (blk_cell (blk_below HK.out HW7.out) 0).trans rfl; have hq3 : w7.drew.cell? ad = some (.string x0) := (by have hC := Kd.C_below (Kd.R_reads' HL.out).2.2 HW7.out; obtain ⟨ad2, ea, hc⟩ := Kd.at_string hC 0 (by omega) (by have := HNL.out; omega); cases ea; rw [← E0.out, Int.toNat_zero, show ad.add 0 = ad from if_pos rfl] at hc; exact hc); have hq4 : w7.drew.cell? (ad.add 0) = some (.string x0) := (by rw [show ad.add 0 = ad from if_pos rfl]; exact hq3); have BRq := Lib.hid (HBR.out.below HW7.out).drew; have HWq := Lib.hid (show Below wr.heap.size wr w7.drew from below_drew1 HW7.out); clear hb HW7)
            refine start_ (n := 9) (S := fun w' => Below (w7).drew.heap.size (w7).drew w') (ds := [8]) #[false, false, false, false, false, false, false, false, false] (by kernel_rfl) rfl rfl (Below.refl _ _) (fun hHeld => ?_)
            generalize w7.drew = wq at hq1 hq2 hq3 hq4 HWq BRq hHeld ⊢
            refine pure_ (i := 0) (N := some 35) (v := ?_) (a' := ?_) #[true, false, false, false, false, false, false, false, false] rfl rfl (by kernel_rfl) (fun _ _ _ h => h) (Or.inl ⟨by rfl, ?_⟩) ?_ ?_
            rotate_left
            · intro w'
              go_simp
              with_reducible rfl
            rotate_left
            · simp only [Act.put, List.setIfInBounds_toArray, List.set_cons_zero, List.set_cons_succ, i64_w, i32_w]
              rfl
            refine take_ (i := 1) (N := some 36) (v := ?_) (a' := ?_) #[true, true, false, false, false, false, false, false, false] rfl rfl (by kernel_rfl) (fun _ _ _ h => h) (Or.inl ⟨by rfl, ?_⟩) hHeld ?_ ?_
            rotate_left
            · rintro w' hS
              have q_hq1 := bcell hS hq1
              have q_hq2 := bcell hS hq2
              have q_hq3 := bcell hS hq3
              have q_hq4 := bcell hS hq4
              go_simp
              with_reducible rfl
            rotate_left
            · simp only [Act.put, List.setIfInBounds_toArray, List.set_cons_zero, List.set_cons_succ, i64_w, i32_w]
              rfl
            refine take_ (i := 2) (N := some 37) (v := ?_) (a' := ?_) #[true, true, true, false, false, false, false, false, false] rfl rfl (by kernel_rfl) (fun _ _ _ h => h) (Or.inl ⟨by rfl, ?_⟩) hHeld ?_ ?_
            rotate_left
            · rintro w' hS
              have q_hq1 := bcell hS hq1
              have q_hq2 := bcell hS hq2
              have q_hq3 := bcell hS hq3
              have q_hq4 := bcell hS hq4
              go_simp
              with_reducible rfl
            rotate_left
            · simp only [Act.put, List.setIfInBounds_toArray, List.set_cons_zero, List.set_cons_succ, i64_w, i32_w]
              rfl
            refine pure_ (i := 3) (N := some 38) (v := ?_) (a' := ?_) #[true, true, true, true, false, false, false, false, false] rfl rfl (by kernel_rfl) (fun _ _ _ h => h) (Or.inl ⟨by rfl, ?_⟩) ?_ ?_
            rotate_left
            · intro w'
              go_simp
              with_reducible rfl
            rotate_left
            · simp only [Act.put, List.setIfInBounds_toArray, List.set_cons_zero, List.set_cons_succ, i64_w, i32_w]
              rfl
            refine take_ (i := 4) (N := some 39) (v := ?_) (a' := ?_) #[true, true, true, true, true, false, false, false, false] rfl rfl (by kernel_rfl) (fun _ _ _ h => h) (Or.inl ⟨by rfl, ?_⟩) hHeld ?_ ?_
            rotate_left
            · rintro w' hS
              have q_hq1 := bcell hS hq1
              have q_hq2 := bcell hS hq2
              have q_hq3 := bcell hS hq3
              have q_hq4 := bcell hS hq4
              go_simp
              with_reducible rfl
            rotate_left
            · simp only [Act.put, List.setIfInBounds_toArray, List.set_cons_zero, List.set_cons_succ, i64_w, i32_w]
              rfl
            refine take_ (i := 5) (N := some 40) (v := ?_) (a' := ?_) #[true, true, true, true, true, true, false, false, false] rfl rfl (by kernel_rfl) (fun _ _ _ h => h) (Or.inl ⟨by rfl, ?_⟩) hHeld ?_ ?_
            rotate_left
            · rintro w' hS
              have q_hq1 := bcell hS hq1
              have q_hq2 := bcell hS hq2
              have q_hq3 := bcell hS hq3
              have q_hq4 := bcell hS hq4
              go_simp
              with_reducible rfl
            rotate_left
            · simp only [Act.put, List.setIfInBounds_toArray, List.set_cons_zero, List.set_cons_succ, i64_w, i32_w]
              rfl
            refine pure_ (i := 6) (N := some 41) (v := ?_) (a' := ?_) #[true, true, true, true, true, true, true, false, false] rfl rfl (by kernel_rfl) (fun _ _ _ h => h) (Or.inl ⟨by rfl, ?_⟩) ?_ ?_
            rotate_left
            · intro w'
              go_simp
              with_reducible rfl
            rotate_left
            · simp only [Act.put, List.setIfInBounds_toArray, List.set_cons_zero, List.set_cons_succ, i64_w, i32_w]
              rfl
            refine pure_ (i := 7) (N := some 42) (v := ?_) (a' := ?_) #[true, true, true, true, true, true, true, true, false] rfl rfl (by kernel_rfl) (fun _ _ _ h => h) (Or.inl ⟨by rfl, ?_⟩) ?_ ?_
            rotate_left
            · intro w'
              go_simp
              with_reducible rfl
            rotate_left
            · simp only [Act.put, List.setIfInBounds_toArray, List.set_cons_zero, List.set_cons_succ, i64_w, i32_w]
              rfl
            refine last_ (i := 8) (N := none) #[true, true, true, true, true, true, true, true, true] rfl rfl (by kernel_rfl) (by decide) (fun K hK => ?_)
            refine skip_ (w1 := ?wn) (by rfl) rfl ?hrun ?_
            case hrun =>
              have q1 := bcell hHeld hq1
              have q2 := bcell hHeld hq2
              have q3 := bcell hHeld hq3
              have q4 := bcell hHeld hq4
              have BRw := BRq.out.below hHeld
              have hz := BRw.frozen j (by rw [HOL.out]; exact hlt)
              have hx := BRw.cell j (by rw [HOL.out]; exact hlt)
              clear BRw
              go_simp
              with_reducible rfl
            refine hK.out _ _ ?_
            clear hK K
            refine done_ (by kernel_rfl) ?_
            have HWw := Lib.hid (below_step HWq.out hHeld)
            have BRw := Lib.hid (BRq.out.below hHeld)
            clear hHeld
            go_wp2
            go_roundw
            case measure => simp only [intOf]; omega
            case rel => exact ⟨j + 1, by omega, by go_num, Lib.hid (by rw [outG_step _ _ _ hlt, HFB.out]; exact BRw.out.set j (by rw [HOL.out]; exact hlt) _), Lib.hid ((Below.heap_setCell _ _ _ _ (Nat.ne_of_lt (Nat.lt_succ_self _))).trans (blk_below HK.out HWw.out)), Lib.hid (Kd.R_far (Kd.R_below HL.out HWw.out) (p := ⟨w4.heap.size + 1, j, none⟩) (fun k hk => Nat.ne_of_lt (Nat.lt_succ_of_lt hk)) _), Lib.hid ((below_step HB.out HWw.out).setCell (Nat.le_succ_of_le HG4.out) _)⟩
        · have HJ := Lib.hid (show j = worn.size by omega)
          have hstr := fun c => HBR.out.string Tryd.underlying57 Tryd.underlying5 Tryd.underlying9 c worn.size (outG_len _ _ _)
          have hlt2 : ¬ (j : Int) < (worn.size : Int) := by omega
          have HR2 := Lib.hid (show res = (strOfNums (outG (fB l x0 worn) worn j), 0) from by rw [HJ.out]; exact HRES.out)
          go_wp2
          go_ret2
          rw [HR2.out]
          exact ⟨rfl, HB.out⟩
end Go.Proofs.YtdhhnkhgmoblhaaDoor.Q
