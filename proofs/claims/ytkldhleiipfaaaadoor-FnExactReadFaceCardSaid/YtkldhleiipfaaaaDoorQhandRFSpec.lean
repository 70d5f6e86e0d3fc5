/- spec.ReadFace, by hand: the walk. -/
import Derived.Test.YtkldhleiipfaaaaDoorQhandRFBase
import Derived.Deep.DeepCutAuto
namespace Go.Proofs.YtkldhleiipfaaaaDoor.Q
open Go.RowKit Go.Proofs.YtkldhleiipfaaaaDoorW.PrintWords Go.Proofs.YtkldhleiipfaaaaDoorW.PrintLast Go.Proofs.YtkldhleiipfaaaaDoorW.PrintMore
open Go.Proofs.YtkldhleiipfaaaaDoor.Pure
set_option linter.unusedVariables false
set_option linter.unusedSimpArgs false

set_option maxHeartbeats 8000000 in
set_option maxRecDepth 100000 in
theorem specReadC (t : ByteArray) (ht : t.size ≤ 1048576) (w : World) (r : FaceV) (code : Int) (h : readR t = (r, code)) :
    Calls Tryd.prog 10 #[.string t] w fun e w' => ∃ B d, e = .returned (.tuple #[.agg (FV r.1 r.2.1 r.2.2.1 (.slice B r.2.2.2.length d)), .int .i64 code]) ∧ Kd.R k48 48 w' w.heap.size (fun _ => True) (.slice B r.2.2.2.length d) r.2.2.2 ∧ Below w.heap.size w w' := by
  go_enter Tryd.func10, Tryd.ntmps10
  obtain ⟨M, hM⟩ : ∃ M : Nat, M = 29 := ⟨_, rfl⟩
  obtain ⟨U, hU⟩ : ∃ U : TypeId, U = 31 := ⟨_, rfl⟩
  have huU := fun w => (show (underlying U).run Tryd.prog w = (underlying 31).run Tryd.prog w by rw [hU]).trans (run_underlying (P := Tryd.prog) (w := w) Tryd.underlying31)
  have hzU : ∀ w, (sizeOf U).run Tryd.prog w = .ok M w := fun w => by rw [hM, hU]; exact Tryd.sizeOf31 w
  have haU : ∀ w, (isAgg U).run Tryd.prog w = .ok true w := fun w => by rw [hU]; exact Tryd.isAgg31 w
  have hvU : ∀ w, (zeroValue U).run Tryd.prog w = .ok (.agg ZF) w := fun w => by rw [hU]; exact Tryd.zeroValue31 w
  have e2 : ∀ x, Op.load 31 x = Op.load U x := fun x => by rw [hU]
  have e3 : ∀ x y, Op.store 31 x y = Op.store U x y := fun x y => by rw [hU]
  have e4 : Op.alloc 31 = Op.alloc U := by rw [hU]
  have e5 : ∀ x, Op.build 31 x = Op.build U x := fun x => by rw [hU]
  simp only [e2, e3, e4, e5]
  clear e2 e3 e4 e5
  have hFz : ZF.size = M := by rw [hM]; rfl
  have hm1 : ¬ M < 27 := by omega
  have hm2 : ¬ M < 28 := by omega
  have HU := Lib.hid hU
  have HM := Lib.hid hM
  clear hM hU
  have K0 := Lib.hid (heap_alloc_new w (.cells ZF U))
  have B0 := Lib.hid (below_alloc (Below.refl w.heap.size w) (.cells ZF U))
  have HS := Lib.hid (fun W => splitC59 t ht W)
  by_cases h4 : (cutAt 59 [] t.data.toList).length = 4
  rotate_left
  · have e := readR_none (specRF_len h4)
    rw [h] at e
    obtain ⟨rfl, rfl⟩ := Prod.mk.inj e
    obtain ⟨PB, hPB⟩ : ∃ PB, PB = (cutAt 59 [] t.data.toList).map mkB := ⟨_, rfl⟩
    rw [← hPB] at HS
    have hn : PB.length ≠ 4 := by rw [hPB, List.length_map]; exact h4
    have n1 : ((PB.length : Int) != 4) = true := bne_iff_ne.2 (by omega)
    have n2 : ((PB.length : Int) == 4) = false := beq_eq_false_iff_ne.2 (by omega)
    have n3 : ¬ (PB.length : Int) = 4 := by omega
    clear hPB h4 h e ht hn
    go_wp2_with (first
      | (go_at_call 25
         with_reducible refine (HS.out _).mono ?_
         rintro e w1 ⟨v, rfl, hR, hb⟩
         obtain ⟨A1, c1, rfl⟩ := Kd.R_slice hR
         have B1 := Lib.hid (below_step B0.out hb)
         have K1 := Lib.hid ((hb.block _ (blk_lt K0.out)).trans K0.out)
         clear hb hR
         have hst : (storeCells ⟨w.heap.size, 0, none⟩ ZF.toList 0).run Tryd.prog w1 = .ok () (w1.setRow w.heap.size ZF) := storeF K1.out Z26_len Z26_len
         have PE := Lib.hid (setRow_heap w1 w.heap.size _ ZF U (0, 0) K1.out)))
    refine bodyPost_ret (results_face rfl _ _ w.heap.size U Z26 Z26_len 0 0 (.slice none 0 0) rfl PE.out) rfl ?_
    exact ⟨none, 0, rfl, Kd.R_nil _ _ _ _ _, below_setRow B1.out (Nat.le_refl _) _⟩
  obtain ⟨a, b, c, d, hP⟩ := four_of h4
  have hmem := fun x (hx : x ∈ cutAt 59 [] t.data.toList) => cutAt_mem 59 t.data.toList [] x hx
  have htl : t.data.toList.length = t.size := by rw [Array.length_toList]; rfl
  have HA := Lib.hid (show a.length ≤ 1048576 by have := hmem a (by rw [hP]; simp); simp only [List.length_nil] at this; omega)
  have HD := Lib.hid (show d.length ≤ 1048576 by have := hmem d (by rw [hP]; simp); simp only [List.length_nil] at this; omega)
  rw [hP] at HS
  have HRF := Lib.hid (specRF_four hP)
  have HH := Lib.hid h
  clear h4 hmem htl hP h ht
  go_upto_region 7 with (first
    | (go_at_call 25
       with_reducible refine (HS.out _).mono ?_
       rintro e w1 ⟨v, rfl, hR, hb⟩
       obtain ⟨A1, c1, ev⟩ := Kd.R_slice hR
       have ev2 : v = .slice A1 4 c1 := ev
       clear ev
       subst ev2
       obtain ⟨ad, ea, p0⟩ := Kd.at_string (Kd.R_reads' hR).2.2 (0 : Int) (by decide) (by simp)
       cases ea
       have p1 := p0
       obtain ⟨ad1, ea, p1⟩ := Kd.at_string (Kd.R_reads' hR).2.2 (1 : Int) (by decide) (by simp)
       cases ea
       obtain ⟨ad2, ea, p2⟩ := Kd.at_string (Kd.R_reads' hR).2.2 (2 : Int) (by decide) (by simp)
       cases ea
       obtain ⟨ad3, ea, p3⟩ := Kd.at_string (Kd.R_reads' hR).2.2 (3 : Int) (by decide) (by simp)
       cases ea
       replace p0 : w1.cell? (ad.add 0) = some (.string (mkB a)) := p0
       replace p1 : w1.cell? ⟨ad.block, ad.off + 1, none⟩ = some (.string (mkB b)) := by
         have h5 : w1.cell? (ad.add 1) = some (.string (mkB b)) := p1
         unfold Addr.add at h5
         rw [if_neg (by decide)] at h5
         exact h5
       replace p2 : w1.cell? ⟨ad.block, ad.off + 2, none⟩ = some (.string (mkB c)) := by
         have h5 : w1.cell? (ad.add 2) = some (.string (mkB c)) := p2
         unfold Addr.add at h5
         rw [if_neg (by decide)] at h5
         exact h5
       replace p3 : w1.cell? ⟨ad.block, ad.off + 3, none⟩ = some (.string (mkB d)) := by
         have h5 : w1.cell? (ad.add 3) = some (.string (mkB d)) := p3
         unfold Addr.add at h5
         rw [if_neg (by decide)] at h5
         exact h5
       have p0' : w1.cell? ad = some (.string (mkB a)) := by rw [show ad.add 0 = ad from by unfold Addr.add; rw [if_pos rfl]] at p0; exact p0
       have B1 := Lib.hid (below_step B0.out hb)
       have K1 := Lib.hid ((hb.block _ (blk_lt K0.out)).trans K0.out)
       clear hb hR HS)
    | (go_at_call 25
       with_reducible refine (splitC32 a HA.out _).mono ?_
       rintro e w2 ⟨v, rfl, hR, hb⟩
       obtain ⟨wb, hwb⟩ : ∃ wb, wb = (cutAt 32 [] a).map mkB := ⟨_, rfl⟩
       rw [← hwb] at hR
       have HWB := Lib.hid hwb
       obtain ⟨A2, c2, rfl⟩ := Kd.R_slice hR
       have q1 := bcell hb p1
       have q2 := bcell hb p2
       have q3 := bcell hb p3
       have R2 := Lib.hid (Kd.R_lower hR (show w.heap.size ≤ w1.heap.size from B1.out.size))
       have B2 := Lib.hid (below_step B1.out hb)
       have K2 := Lib.hid ((hb.block _ (blk_lt K1.out)).trans K1.out)
       clear hb hR hwb p0 p0' p1 p2 p3)
    | (go_at_call 26
       with_reducible refine (numC b _).mono ?_
       rintro e w3 ⟨rfl, hb⟩
       have r2 := bcell hb q2
       have r3 := bcell hb q3
       have R3 := Lib.hid (Kd.R_below R2.out hb)
       have B3 := Lib.hid (below_step B2.out hb)
       have K3 := Lib.hid ((hb.block _ (blk_lt K2.out)).trans K2.out)
       clear hb q1 q2 q3)
    | (go_at_call 26
       with_reducible refine (numC c _).mono ?_
       rintro e w4 ⟨rfl, hb⟩
       have s3 := bcell hb r3
       have R4 := Lib.hid (Kd.R_below R3.out hb)
       have B4 := Lib.hid (below_step B3.out hb)
       have K4 := Lib.hid ((hb.block _ (blk_lt K3.out)).trans K3.out)
       clear hb r2 r3))
  obtain ⟨nb, hnb⟩ : ∃ nb, nb = numR b := ⟨_, rfl⟩
  obtain ⟨nc, hnc⟩ : ∃ nc, nc = numR c := ⟨_, rfl⟩
  rw [← hnb, ← hnc]
  have HNB := Lib.hid hnb
  have HNC := Lib.hid hnc
  clear hnb hnc
  obtain ⟨n1, o1⟩ := nb
  obtain ⟨n2, o2⟩ := nc
  dsimp only
  go_cut [60] (fun s60 wx => s60 = .bool (!(decide (wb.length = 26) && o1 && o2 && decide (n1 ≤ 40) && decide (n2 ≤ 10))) ∧ wx = w4)
  case first =>
    by_cases h26 : wb.length = 26
    · have m1 : ((wb.length : Int) != 26) = false := by rw [h26]; rfl
      have m2 : ((wb.length : Int) == 26) = true := by rw [h26]; rfl
      have H26 := Lib.hid h26
      clear h26
      cases o1 with
      | false =>
        go_wp2
        go_meet
        exact ⟨by rw [decide_eq_true H26.out]; rfl, rfl⟩
      | true =>
      cases o2 with
      | false =>
        go_wp2
        go_meet
        exact ⟨by rw [decide_eq_true H26.out]; rfl, rfl⟩
      | true =>
      by_cases g1 : n1 ≤ 40
      · have g2 : decide (n1 > 40) = false := decide_eq_false (by omega)
        have g3 : ¬ n1 > 40 := by omega
        by_cases k1 : n2 ≤ 10
        · have k2 : decide (n2 > 10) = false := decide_eq_false (by omega)
          go_wp2
          go_meet
          exact ⟨by rw [decide_eq_true H26.out, decide_eq_true g1, decide_eq_true k1]; rfl, rfl⟩
        · have k2 : decide (n2 > 10) = true := decide_eq_true (by omega)
          go_wp2
          go_meet
          exact ⟨by rw [decide_eq_true H26.out, decide_eq_true g1, decide_eq_false (show ¬ n2 ≤ 10 by omega)]; rfl, rfl⟩
      · have g2 : decide (n1 > 40) = true := decide_eq_true (by omega)
        have g3 : n1 > 40 := by omega
        go_wp2
        go_meet
        exact ⟨by rw [decide_eq_true H26.out, decide_eq_false (show ¬ n1 ≤ 40 by omega)]; rfl, rfl⟩
    · have m1 : ((wb.length : Int) != 26) = true := bne_iff_ne.2 (by omega)
      have m2 : ((wb.length : Int) == 26) = false := beq_eq_false_iff_ne.2 (by omega)
      have H26 := Lib.hid h26
      clear h26
      go_wp2
      go_meet
      exact ⟨by rw [decide_eq_false H26.out]; rfl, rfl⟩
  case rest =>
  obtain ⟨rfl, hw⟩ := hcut
  have hw2 := hw.symm
  subst hw2
  clear hw
  cases hgd : (decide (wb.length = 26) && o1 && o2 && decide (n1 ≤ 40) && decide (n2 ≤ 10)) with
  | false =>
    have e := readR_none (good_false HRF.out (by rw [← HNB.out, ← HNC.out, ← hgd, HWB.out, List.length_map]))
    rw [HH.out] at e
    obtain ⟨rfl, rfl⟩ := Prod.mk.inj e
    clear hgd e
    have hst : (storeCells ⟨w.heap.size, 0, none⟩ ZF.toList 0).run Tryd.prog w4 = .ok () (w4.setRow w.heap.size ZF) := storeF K4.out Z26_len Z26_len
    have PE := Lib.hid (setRow_heap w4 w.heap.size _ ZF U (0, 0) K4.out)
    go_wp2
    refine bodyPost_ret (results_face rfl _ _ w.heap.size U Z26 Z26_len 0 0 (.slice none 0 0) rfl PE.out) rfl ?_
    exact ⟨none, 0, rfl, Kd.R_nil _ _ _ _ _, below_setRow B4.out (Nat.le_refl _) _⟩
  | true =>
  simp only [Bool.and_eq_true, decide_eq_true_eq] at hgd
  obtain ⟨⟨⟨⟨h26, ho1⟩, ho2⟩, hn1⟩, hn2⟩ := hgd
  rw [Bool.not_true]
  subst ho1
  subst ho2
  have HT := Lib.hid (good_true HRF.out HNB.out HNC.out (by have := HWB.out; rw [this, List.length_map] at h26; exact h26) hn1 hn2)
  have hb0 : 0 ≤ n1 ∧ 0 ≤ n2 := ⟨numR_nn HNB.out, numR_nn HNC.out⟩
  have v1 : IntKind.i8.wrap n1 = n1 := IntWalk.i8_in _ (by omega)
  have v2 : IntKind.i8.wrap n2 = n2 := IntWalk.i8_in _ (by omega)
  have H26 := Lib.hid h26
  have H40 := Lib.hid (And.intro hb0 (And.intro hn1 hn2))
  clear h26 hb0 hn1 hn2 HRF
  have hst1 := store_new w4 U Z26 Z26_len n1 n2 none 0 0
  rw [← FV_two n1 n2] at hst1
  have I5 := Lib.hid (RI.mk (boxed w4 U Z26 n1 n2 (.slice none 0 0)).2.1 (boxed w4 U Z26 n1 n2 (.slice none 0 0)).1)
  go_upto_region 10 with (fail)
  clear hst1 v1 v2 hm1 hm2
  go_wp2
  go_loopw [11] (fun i wr => ∃ (k : Nat) (vs : List Int), k ≤ 26 ∧ i = .int .i64 k ∧ RowKit.Hid (vs.length = k ∧ allM wdS ((cutAt 32 [] a).take k) = some vs ∧ ∀ x ∈ vs, 0 ≤ x ∧ x ≤ 40) ∧ RowKit.Hid (RI (FV (vs ++ Z26.drop k) n1 n2 (.slice none 0 0)) U w4 wr)) (fun i _ => 26 - (intOf i).toNat)
  case atStart => exact ⟨0, [], Nat.zero_le _, rfl, Lib.hid ⟨rfl, rfl, fun x hx => absurd hx (by simp)⟩, I5⟩
  case round =>
    obtain ⟨k, vs, hk, rfl, HV, HI⟩ := hrel
    by_cases hk2 : k < 26
    · have hk3 : (k : Int) < 26 := by omega
      have hkl : k < (cutAt 32 [] a).length := by have h1 := H26.out; rw [HWB.out, List.length_map] at h1; omega
      obtain ⟨x, hxx⟩ : ∃ x, x = (cutAt 32 [] a)[k] := ⟨_, rfl⟩
      have HX := Lib.hid hxx
      obtain ⟨ad, ea, px⟩ := Kd.at_string (Kd.R_reads' (Kd.R_below R4.out HI.out.b)).2.2 (k : Int) (by omega) (by rw [H26.out]; omega)
      rw [HWB.out, rdMk _ _ hkl, ← hxx, Int.toNat_natCast] at px
      subst ea
      clear hxx
      obtain ⟨nx, hnx⟩ : ∃ p, p = numR x := ⟨_, rfl⟩
      have HC := Lib.hid (fun W => numC x W)
      rw [← hnx] at HC
      obtain ⟨n, ok⟩ := nx
      have HN := Lib.hid hnx
      have hkw : (k : Int) < (wb.length : Int) := by rw [H26.out]; omega
      have KR := Lib.hid ((HI.out.b.block _ (blk_lt K4.out)).trans K4.out)
      have hnn := numR_nn hnx
      clear hnx
      cases hgk : (ok && decide (n ≤ 40)) with
      | false =>
        have e := readR_none (HT.out.trans (by rw [allM_bad (x := x) (by rw [HX.out]; exact List.getElem_mem _) (by rw [wdS_num HN.out, if_neg]; simpa using hgk)]; rfl))
        rw [HH.out] at e
        obtain ⟨rfl, rfl⟩ := Prod.mk.inj e
        clear e hnn
        cases ok with
        | false =>
          clear hgk
          go_wp2_with (first
            | (go_at_call 26
               with_reducible refine (HC.out _).mono ?_
               rintro e w6 ⟨rfl, hb⟩
               have K6 := Lib.hid ((hb.block _ (blk_lt KR.out)).trans KR.out)
               have B6 := Lib.hid (below_step B4.out (HI.out.step hb).b)
               clear hb px
               have hst : (storeCells ⟨w.heap.size, 0, none⟩ ZF.toList 0).run Tryd.prog w6 = .ok () (w6.setRow w.heap.size ZF) := storeF K6.out Z26_len Z26_len
               have PE := Lib.hid (setRow_heap w6 w.heap.size _ ZF U (0, 0) K6.out)))
          refine bodyPost_ret (results_face rfl _ _ w.heap.size U Z26 Z26_len 0 0 (.slice none 0 0) rfl PE.out) rfl ?_
          exact ⟨none, 0, rfl, Kd.R_nil _ _ _ _ _, below_setRow B6.out (Nat.le_refl _) _⟩
        | true =>
          have hgt : n > 40 := by simpa using hgk
          have hgt2 : decide (n > 40) = true := decide_eq_true hgt
          clear hgk
          go_wp2_with (first
            | (go_at_call 26
               with_reducible refine (HC.out _).mono ?_
               rintro e w6 ⟨rfl, hb⟩
               have K6 := Lib.hid ((hb.block _ (blk_lt KR.out)).trans KR.out)
               have B6 := Lib.hid (below_step B4.out (HI.out.step hb).b)
               clear hb px
               have hst : (storeCells ⟨w.heap.size, 0, none⟩ ZF.toList 0).run Tryd.prog w6 = .ok () (w6.setRow w.heap.size ZF) := storeF K6.out Z26_len Z26_len
               have PE := Lib.hid (setRow_heap w6 w.heap.size _ ZF U (0, 0) K6.out)))
          refine bodyPost_ret (results_face rfl _ _ w.heap.size U Z26 Z26_len 0 0 (.slice none 0 0) rfl PE.out) rfl ?_
          exact ⟨none, 0, rfl, Kd.R_nil _ _ _ _ _, below_setRow B6.out (Nat.le_refl _) _⟩
      | true =>
        simp only [Bool.and_eq_true, decide_eq_true_eq] at hgk
        obtain ⟨rfl, hle⟩ := hgk
        have HV2 := Lib.hid (show (vs ++ [n]).length = k + 1 ∧ allM wdS ((cutAt 32 [] a).take (k + 1)) = some (vs ++ [n]) ∧ ∀ x ∈ vs ++ [n], 0 ≤ x ∧ x ≤ 40 from
          ⟨by rw [List.length_append, HV.out.1]; rfl, allM_snoc hkl HV.out.2.1 (by rw [← HX.out, wdS_num HN.out, if_pos ⟨rfl, hle⟩]), fun y hy => by rcases List.mem_append.1 hy with h1 | h1; exact HV.out.2.2 y h1; cases List.mem_singleton.1 h1; exact ⟨hnn, hle⟩⟩)
        have v3 : IntKind.i8.wrap n = n := IntWalk.i8_in _ (by omega)
        have hgt : ¬ n > 40 := by omega
        have hgt2 : decide (n > 40) = false := decide_eq_false hgt
        clear hle hnn
        go_wp2_with (first
          | (go_at_call 26
             with_reducible refine (HC.out _).mono ?_
             rintro e w6 ⟨rfl, hb⟩
             have I6 := Lib.hid (HI.out.step hb)
             have g6 := (blk_cell I6.out.k k).trans (FV_lt _ (FVw_len vs k (by omega) HV.out.1) n1 n2 (.slice none 0 0) k hk2)
             have f6 := blk_frozen I6.out.k k
             clear hb px))
        go_roundw
        case measure => simp only [intOf]; omega
        case rel => exact ⟨k + 1, vs ++ [n], by omega, by go_num, HV2, Lib.hid (I6.out.put k (FV_setw vs k hk2 HV.out.1 n1 n2 n _))⟩
    · have hk3 : ¬ (k : Int) < 26 := by omega
      have HVT := Lib.hid (show vs.length = 26 ∧ allM wdS (cutAt 32 [] a) = some vs ∧ ∀ x ∈ vs, 0 ≤ x ∧ x ≤ 40 from ⟨by have := HV.out.1; omega, by have h1 := HV.out.2.1; rw [List.take_of_length_le (by have h1 := H26.out; rw [HWB.out, List.length_map] at h1; omega)] at h1; exact h1, HV.out.2.2⟩)
      have HI2 := Lib.hid (show RI (FV vs n1 n2 (.slice none 0 0)) U w4 wr by have h1 := HI.out; rw [List.drop_eq_nil_of_le (show Z26.length ≤ k by rw [Z26_len]; omega), List.append_nil] at h1; exact h1)
      have HT2 := Lib.hid (show specRF t.data.toList = tailRF n1 n2 d vs from HT.out.trans (by rw [HVT.out.2.1]; rfl))
      have s3r := bcell HI2.out.b s3
      clear HV HI hk2 hk HT s3
      go_upto_if 94 with (fail)
      go_cut [] (fun wx => ∃ (B : Option Addr) (l : List S48) (dd : Nat), RowKit.Hid (RI (FV vs n1 n2 (.slice B l.length dd)) U w4 wx) ∧ RowKit.Hid (Kd.R k48 48 wx w4.heap.size (fun k => w4.heap.size < k) (.slice B l.length dd) l) ∧ RowKit.Hid (allM prS (if d = [] then [] else cutAt 32 [] d) = some l))
      case first =>
        by_cases hd : d = []
        · have hde : (mkB d).toList.isEmpty = true := by rw [mk_toList, hd]; rfl
          have HDN := Lib.hid hd
          clear hd
          rw [hde, Bool.not_true]
          go_wp2
          go_meet
          exact ⟨none, [], 0, HI2, Lib.hid (Kd.R_nil _ _ _ _ _), Lib.hid (by rw [if_pos HDN.out]; rfl)⟩
        · have hde : (mkB d).toList.isEmpty = false := by rw [mk_toList]; cases d with | nil => exact absurd rfl hd | cons _ _ => rfl
          have HDN := Lib.hid hd
          obtain ⟨pb, hpb⟩ : ∃ pb, pb = (cutAt 32 [] d).map mkB := ⟨_, rfl⟩
          have HPS := Lib.hid (fun W => splitC32 d HD.out W)
          rw [← hpb] at HPS
          have hpl : (pb.length : Int) ≤ 1048577 := by rw [hpb, List.length_map]; have := (cutAt_len 32 d []).2; have := HD.out; omega
          have HPB := Lib.hid hpb
          clear hd hpb
          rw [hde, Bool.not_false]
          go_wp2_with (first
            | (go_at_call 25
               with_reducible refine (HPS.out _).mono ?_
               rintro e w5 ⟨v, rfl, hR, hb⟩
               obtain ⟨A5, c5, ev⟩ := Kd.R_slice hR
               subst ev
               have I5b := Lib.hid (HI2.out.step hb)
               have R5 := Lib.hid (Kd.R_lower (Kd.R_mono (Kd.R_bound hR) (fun k hk => show w4.heap.size < k by have h1 := hk.2.1; have h2 := HI2.out.sz; omega)) (show w4.heap.size ≤ wr.heap.size by have := HI2.out.sz; omega))
               clear hb hR hde s3r))
          go_loopw [15] (fun i wq => ∃ (k : Nat) (l : List S48) (B : Option Addr) (dd : Nat), k ≤ pb.length ∧ i = .int .i64 k ∧ RowKit.Hid (l.length = k ∧ allM prS ((cutAt 32 [] d).take k) = some l) ∧ RowKit.Hid (RI (FV vs n1 n2 (.slice B l.length dd)) U w4 wq) ∧ RowKit.Hid (Kd.R k48 48 wq w4.heap.size (fun k => w4.heap.size < k) (.slice B l.length dd) l) ∧ RowKit.Hid (Kd.R Kd.string 9 wq w4.heap.size (fun k => w4.heap.size < k) (.slice A5 pb.length c5) pb)) (fun i _ => pb.length - (intOf i).toNat)
          case atStart => exact ⟨0, [], none, 0, Nat.zero_le _, rfl, Lib.hid ⟨rfl, rfl⟩, I5b, Lib.hid (Kd.R_nil _ _ _ _ _), R5⟩
          case round =>
            obtain ⟨k, l, B, dd, hk, rfl, HL, HI, HP, HW⟩ := hrel
            by_cases hk2 : k < pb.length
            · have hk3 : (k : Int) < (pb.length : Int) := by omega
              have hkl : k < (cutAt 32 [] d).length := by have h1 := HPB.out; rw [h1, List.length_map] at hk2; exact hk2
              obtain ⟨x, hxx⟩ : ∃ x, x = (cutAt 32 [] d)[k] := ⟨_, rfl⟩
              have HX := Lib.hid hxx
              obtain ⟨ad2, ea, px⟩ := Kd.at_string (Kd.R_reads' HW.out).2.2 (k : Int) (by omega) (by omega)
              rw [HPB.out, rdMk _ _ hkl, ← hxx, Int.toNat_natCast] at px
              subst ea
              clear hxx
              obtain ⟨p, hp⟩ : ∃ p, p = prR x := ⟨_, rfl⟩
              have HC := Lib.hid (fun W => readPairC x W)
              rw [← hp] at HC
              have HN := Lib.hid hp
              clear hp
              obtain ⟨f0, f1, f2, ok⟩ := p
              go_upto_if 114 with (first
                | (go_at_call 27
                   with_reducible refine (HC.out _).mono ?_
                   rintro e w6 ⟨rfl, hb⟩
                   have I6 := Lib.hid (HI.out.step hb)
                   have P6 := Lib.hid (Kd.R_below HP.out hb)
                   have W6 := Lib.hid (Kd.R_below HW.out hb)
                   clear hb px HI HP HW))
              have hba := below_alloc (Below.refl w6.heap.size w6) (.cells #[.int .u8 f0, .int .u8 f1, .int .i8 f2] 48)
              have hblk := heap_alloc_new w6 (.cells #[.int .u8 f0, .int .u8 f1, .int .i8 f2] 48)
              obtain ⟨w7, hw7⟩ : ∃ w7, w7 = w6.alloc (.cells #[.int .u8 f0, .int .u8 f1, .int .i8 f2] 48) := ⟨_, rfl⟩
              rw [← hw7] at hba hblk ⊢
              have I7 := Lib.hid (I6.out.step hba)
              have P7 := Lib.hid (Kd.R_below P6.out hba)
              have W7 := Lib.hid (Kd.R_below W6.out hba)
              have d0 : w7.cell? ⟨w6.heap.size, 0, none⟩ = some (.int .u8 f0) := (blk_cell hblk 0).trans rfl
              have d1 : w7.cell? ⟨w6.heap.size, 1, none⟩ = some (.int .u8 f1) := (blk_cell hblk 1).trans rfl
              have d2 : w7.cell? ⟨w6.heap.size, 2, none⟩ = some (.int .i8 f2) := (blk_cell hblk 2).trans rfl
              clear hba hblk hw7 I6 P6 W6
              cases ok with
              | false =>
                have e := readR_none (HT2.out.trans (tail_bad (by rw [if_neg HDN.out]; exact allM_bad (x := x) (by rw [HX.out]; exact List.getElem_mem _) (by rw [prS_pr HN.out]; rfl))))
                rw [HH.out] at e
                obtain ⟨rfl, rfl⟩ := Prod.mk.inj e
                clear e d0 d1 d2
                have K7 := Lib.hid ((I7.out.b.block _ (blk_lt K4.out)).trans K4.out)
                have B7 := Lib.hid (below_step B4.out I7.out.b)
                have hst : (storeCells ⟨w.heap.size, 0, none⟩ ZF.toList 0).run Tryd.prog w7 = .ok () (w7.setRow w.heap.size ZF) := storeF K7.out Z26_len Z26_len
                have PE := Lib.hid (setRow_heap w7 w.heap.size _ ZF U (0, 0) K7.out)
                go_wp2
                refine bodyPost_ret (results_face rfl _ _ w.heap.size U Z26 Z26_len 0 0 (.slice none 0 0) rfl PE.out) rfl ?_
                exact ⟨none, 0, rfl, Kd.R_nil _ _ _ _ _, below_setRow B7.out (Nat.le_refl _) _⟩
              | true =>
                obtain ⟨l2, hl2⟩ : ∃ l2, l ++ [⟨f0, f1, f2⟩] = l2 := ⟨_, rfl⟩
                have HL2 := Lib.hid (show l2.length = k + 1 ∧ allM prS ((cutAt 32 [] d).take (k + 1)) = some l2 from ⟨by rw [← hl2, List.length_append, HL.out.1]; rfl, by rw [← hl2]; exact allM_snoc hkl HL.out.2 (by rw [← HX.out, prS_pr HN.out]; rfl)⟩)
                have HE2 := Lib.hid hl2
                clear hl2
                have c28 := (blk_cell I7.out.k 28).trans (FV_28 vs HVT.out.1 _ _ _)
                go_wp2_with (first
                  | ((with_reducible refine gate_builtin (b := .append) (xs := #[.tmp 117, .tmp 119]) rfl ?_); at_builtin; refine Kd.R_append k48 (w0 := w4) w4.heap.size rfl (.tmp 117) (.tmp 119) 29 48 (.agg #[.int .u8 0, .int .u8 0, .int .i8 0]) 3 rfl Tryd.underlying29 info48' rfl (by decide) (by omega) (.slice B l.length dd) l ⟨f0, f1, f2⟩ [.int .u8 f0, .int .u8 f1, .int .i8 f2] (fun k => w4.heap.size < k) (fun _ => False) ?hS ?hX ?aP (fun _ hk => hk.elim) ?aF ?aO ?aB ?aS ?aL ?_; (case hS => rfl); (case hX => first | rfl | (go_simp; done) | (simp [World.alloc]; done) | (go_simp; rfl)); (case aP => exact k48_mkM _ _ _ ⟨f0, f1, f2⟩); (case aF => exact fun k hk => by have := I7.out.sz; omega); (case aO => exact P7.out); (case aB => exact I7.out.b); (case aS => exact I7.out.b.size); (case aL => have := HL.out.1; omega); intro v2 w8 ho hb hg hat
                     have NB := Lib.hid (show (Value.slice B l.length dd).ownBlock ≠ some w4.heap.size from fun he => Nat.lt_irrefl _ (P7.out.1 _ he))
                     have I8 := Lib.hid (I7.out.grown hg NB.out hb)
                     have W8 := Lib.hid (Kd.R_over' W7.out (Kd.R_typed P7.out) (fun q hq => by have h5 : q ∈ [9] := hq; rw [List.mem_singleton.1 h5]; decide) hg)
                     rw [HE2.out] at ho
                     obtain ⟨B2, dz, rfl⟩ := Kd.R_slice ho
                     have P8 := Lib.hid ho
                     have g28 := (blk_cell I8.out.k 28).trans (FV_28 vs HVT.out.1 _ _ _)
                     have f28 := blk_frozen I8.out.k 28
                     clear ho hb hg hat NB c28 d0 d1 d2 I7 P7 W7))
                go_roundw
                case measure => simp only [intOf]; omega
                case rel => exact ⟨k + 1, l2, B2, dz, by omega, by go_num, HL2, Lib.hid (I8.out.put 28 (FV_set28 vs HVT.out.1 _ _ _ _)), Lib.hid (Kd.R_far P8.out (p := ⟨w4.heap.size, 28, none⟩) (fun k hk => by show k ≠ w4.heap.size; omega) _), Lib.hid (Kd.R_far W8.out (p := ⟨w4.heap.size, 28, none⟩) (fun k hk => by show k ≠ w4.heap.size; omega) _)⟩
            · have hk3 : ¬ (k : Int) < (pb.length : Int) := by omega
              have HLE := Lib.hid (show allM prS (if d = [] then [] else cutAt 32 [] d) = some l by have h1 := HL.out.2; rw [List.take_of_length_le (by have h1 := HPB.out; rw [h1, List.length_map] at hk2; omega)] at h1; rw [if_neg HDN.out]; exact h1)
              clear hk2 hk HW HL
              go_wp2
              go_meet
              exact ⟨B, l, dd, HI, HP, HLE⟩
      case rest =>
      obtain ⟨B, l, dd, HI, HP, HL⟩ := hcut
      have HN := Lib.hid (pairs_len HL.out HD.out)
      have HF := Lib.hid (fit_read HVT.out.1 HVT.out.2.2 ⟨H40.out.1.1, H40.out.2.1⟩ ⟨H40.out.1.2, H40.out.2.2⟩ (fit_pairs HL.out))
      have HT3 := Lib.hid (HT2.out.trans (tail_some HL.out))
      have hFv : ∀ v, (FV vs n1 n2 v).size = M := fun v => by rw [FV_size vs HVT.out.1, HM.out]
      have HK5 := Lib.hid ((HI.out.b.block _ (blk_lt K4.out)).trans K4.out)
      have HQ := Lib.hid (l01FaceC vs HVT.out.1 n1 n2 B dd l w4.heap.size wc (HU.out ▸ HI.out.k) (Kd.R_reads' HP.out).2.2 (Kd.R_reads' HP.out).2.1 HN.out HF.out)
      cases hv : validB vs n1 n2 l with
      | false =>
        rw [hv] at HQ
        have e := readR_none (HT3.out.trans (if_neg (by rw [hv]; decide)))
        rw [HH.out] at e
        obtain ⟨rfl, rfl⟩ := Prod.mk.inj e
        clear e hv
        go_wp2_with (first
          | (go_at_call 15
             with_reducible refine HQ.out.mono ?_
             rintro e w9 ⟨rfl, hb⟩
             have K9 := Lib.hid ((hb.block _ (blk_lt HK5.out)).trans HK5.out)
             have B9 := Lib.hid (below_step B4.out (HI.out.step hb).b)
             clear hb
             have hst : (storeCells ⟨w.heap.size, 0, none⟩ ZF.toList 0).run Tryd.prog w9 = .ok () (w9.setRow w.heap.size ZF) := storeF K9.out Z26_len Z26_len
             have PE := Lib.hid (setRow_heap w9 w.heap.size _ ZF U (0, 0) K9.out)))
        refine bodyPost_ret (results_face rfl _ _ w.heap.size U Z26 Z26_len 0 0 (.slice none 0 0) rfl PE.out) rfl ?_
        exact ⟨none, 0, rfl, Kd.R_nil _ _ _ _ _, below_setRow B9.out (Nat.le_refl _) _⟩
      | true =>
        rw [hv] at HQ
        have e := readR_some (HT3.out.trans (if_pos hv))
        rw [HH.out] at e
        obtain ⟨rfl, rfl⟩ := Prod.mk.inj e
        clear e hv
        go_wp2_with (first
          | (go_at_call 15
             with_reducible refine HQ.out.mono ?_
             rintro e w9 ⟨rfl, hb⟩
             have K9 := Lib.hid ((hb.block _ (blk_lt HK5.out)).trans HK5.out)
             have I9 := Lib.hid (HI.out.step hb)
             have P9 := Lib.hid (Kd.R_below HP.out hb)
             have B9 := Lib.hid (below_step B4.out I9.out.b)
             have q9 := loadF I9.out.k HVT.out.1 HM.out
             have hst : (storeCells ⟨w.heap.size, 0, none⟩ (FV vs n1 n2 (.slice B l.length dd)).toList 0).run Tryd.prog w9 = .ok () (w9.setRow w.heap.size (FV vs n1 n2 (.slice B l.length dd))) := storeF K9.out Z26_len HVT.out.1
             have PE := Lib.hid (setRow_heap w9 w.heap.size _ (FV vs n1 n2 (.slice B l.length dd)) U (0, 0) K9.out)
             clear hb))
        have hww := blk_lt K4.out
        refine bodyPost_ret (results_face rfl _ _ w.heap.size U vs HVT.out.1 n1 n2 (.slice B l.length dd) rfl PE.out) rfl ?_
        exact ⟨B, dd, rfl, Kd.R_lower (Kd.R_mono (Kd.R_step P9.out (fun k hk _ => setRow_other _ _ _ _ (by omega))) (fun _ _ => trivial)) (by omega), below_setRow B9.out (Nat.le_refl _) _⟩
end Go.Proofs.YtkldhleiipfaaaaDoor.Q
