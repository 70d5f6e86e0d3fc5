/- impl.ReadFace, by hand: the walk. -/
import Derived.Test.YtimkkjkgbbfgbaaGreatDoorQRf
import Derived.Deep.DeepCutAuto
namespace Go.Proofs.YtimkkjkgbbfgbaaGreatDoor.Q
open Go.RowKit Go.Proofs.YtimkkjkgbbfgbaaGreatDoorW.PrintWords Go.Proofs.YtimkkjkgbbfgbaaGreatDoorW.PrintLast Go.Proofs.YtimkkjkgbbfgbaaGreatDoorW.PrintMore
open Go.Proofs.YtimkkjkgbbfgbaaGreatDoor.Pure
set_option linter.unusedVariables false
set_option linter.unusedSimpArgs false

set_option maxHeartbeats 8000000 in
set_option maxRecDepth 100000 in
theorem implReadC (t : ByteArray) (ht : t.size ≤ 1048576) (w : World) (hG : GlobFP w) (r : FaceV) (code : Int) (h : readR t = (r, code)) :
    Calls Tryz.prog 8 #[.string t] w fun e w' => ∃ B d, e = .returned (.tuple #[.agg (FV r.1 r.2.1 r.2.2.1 (.slice B r.2.2.2.length d)), .int .i64 code]) ∧ Kd.R k33 33 w' w.heap.size (fun _ => True) (.slice B r.2.2.2.length d) r.2.2.2 ∧ Below w.heap.size w w' := by
  go_enter Tryz.func8, Tryz.ntmps8
  obtain ⟨M, hM⟩ : ∃ M : Nat, M = 29 := ⟨_, rfl⟩
  obtain ⟨U, hU⟩ : ∃ U : TypeId, U = 28 := ⟨_, rfl⟩
  have huU := fun w => (show (underlying U).run Tryz.prog w = (underlying 28).run Tryz.prog w by rw [hU]).trans (run_underlying (P := Tryz.prog) (w := w) Tryz.underlying28)
  have hzU : ∀ w, (sizeOf U).run Tryz.prog w = .ok M w := fun w => by rw [hM, hU]; exact Tryz.sizeOf28 w
  have haU : ∀ w, (isAgg U).run Tryz.prog w = .ok true w := fun w => by rw [hU]; exact Tryz.isAgg28 w
  have hvU : ∀ w, (zeroValue U).run Tryz.prog w = .ok (.agg ZF) w := fun w => by rw [hU]; exact Tryz.zeroValue28 w
  have e2 : ∀ x, Op.load 28 x = Op.load U x := fun x => by rw [hU]
  have e3 : ∀ x y, Op.store 28 x y = Op.store U x y := fun x y => by rw [hU]
  have e4 : Op.alloc 28 = Op.alloc U := by rw [hU]
  have e5 : ∀ x, Op.build 28 x = Op.build U x := fun x => by rw [hU]
  simp only [e2, e3, e4, e5]
  clear e2 e3 e4 e5
  have hFz : ZF.size = M := by rw [hM]; rfl
  have hm1 : ¬ M < 27 := by omega
  have hm2 : ¬ M < 28 := by omega
  have HU := Lib.hid hU
  have HM := Lib.hid hM
  clear hM hU
  have K0 := Lib.hid (heap_alloc_new w (.cells ZF U))
  have B0 := Lib.hid (below_alloc (Below.refl w.heap.size w) (.cells ZF U))
  have HG := Lib.hid (fun W (hb : Below w.heap.size w W) => hG.step hb)
  have HS := Lib.hid (fun W (hb : Below w.heap.size w W) => splitI t ht W (hG.step hb))
  clear hG
  by_cases h4 : (cutAt 59 [] t.data.toList).length = 4
  rotate_left
  · have e := readI_none (implRF_len h4)
    rw [h] at e
    obtain ⟨rfl, rfl⟩ := Prod.mk.inj e
    obtain ⟨PB, hPB⟩ : ∃ PB, PB = (cutAt 59 [] t.data.toList).map mkB := ⟨_, rfl⟩
    rw [← hPB] at HS
    have hn : PB.length ≠ 4 := by rw [hPB, List.length_map]; exact h4
    have n1 : ((PB.length : Int) != 4) = true := bne_iff_ne.2 (by omega)
    have n2 : ((PB.length : Int) == 4) = false := beq_eq_false_iff_ne.2 (by omega)
    have n3 : ¬ (PB.length : Int) = 4 := by omega
    clear hPB h4 h e ht hn
    go_wp2_with (first
      | (go_at_call 30
         with_reducible refine (HS.out _ B0.out).mono ?_
         rintro e w1 ⟨v, rfl, hR, hb⟩
         obtain ⟨A1, c1, rfl⟩ := Kd.R_slice hR
         have B1 := Lib.hid (below_step B0.out hb)
         have K1 := Lib.hid ((hb.block _ (blk_lt K0.out)).trans K0.out)
         clear hb hR
         have hst : (storeCells ⟨w.heap.size, 0, none⟩ ZF.toList 0).run Tryz.prog w1 = .ok () (w1.setRow w.heap.size ZF) := storeF K1.out Z26_len Z26_len
         have PE := Lib.hid (setRow_heap w1 w.heap.size _ ZF U (0, 0) K1.out)))
    refine bodyPost_ret (results_face rfl _ _ w.heap.size U Z26 Z26_len 0 0 (.slice none 0 0) rfl PE.out) rfl ?_
    exact ⟨none, 0, rfl, Kd.R_nil _ _ _ _ _, below_setRow B1.out (Nat.le_refl _) _⟩
  obtain ⟨a, b, c, d, hP⟩ := four_of h4
  have hmem := fun x (hx : x ∈ cutAt 59 [] t.data.toList) => cutAt_mem 59 t.data.toList [] x hx
  have htl : t.data.toList.length = t.size := by rw [Array.length_toList]; rfl
  have HA := Lib.hid (show a.length ≤ 1048576 by have := hmem a (by rw [hP]; simp); simp only [List.length_nil] at this; omega)
  have HB := Lib.hid (show b.length ≤ 1048576 by have := hmem b (by rw [hP]; simp); simp only [List.length_nil] at this; omega)
  have HCC := Lib.hid (show c.length ≤ 1048576 by have := hmem c (by rw [hP]; simp); simp only [List.length_nil] at this; omega)
  have HD := Lib.hid (show d.length ≤ 1048576 by have := hmem d (by rw [hP]; simp); simp only [List.length_nil] at this; omega)
  rw [hP] at HS
  have HRF := Lib.hid (implRF_four hP)
  have HH := Lib.hid h
  obtain ⟨nr, hnr⟩ : ∃ p, numsR (cutAt 32 [] a) 26 40 = p := ⟨_, rfl⟩
  obtain ⟨nb, hnb⟩ : ∃ p, numQ 40 b = p := ⟨_, rfl⟩
  obtain ⟨nc, hnc⟩ : ∃ p, numQ 10 c = p := ⟨_, rfl⟩
  obtain ⟨ws, o0⟩ := nr
  obtain ⟨n1, o1⟩ := nb
  obtain ⟨n2, o2⟩ := nc
  have HNA := Lib.hid hnr
  have HNB := Lib.hid hnb
  have HNC := Lib.hid hnc
  have bad : (o0 && o1 && o2) = false → readR t = (noFaceV, 5) := fun hg => readI_none (goodI_false HRF.out (by rw [hnr, hnb, hnc]; exact hg))
  clear h4 hmem htl hP h ht hnr hnb hnc
  go_upto_region 7 with (first
    | (go_at_call 30
       with_reducible refine (HS.out _ B0.out).mono ?_
       rintro e w1 ⟨v, rfl, hR, hb⟩
       obtain ⟨A1, c1, ev⟩ := Kd.R_slice hR
       have ev2 : v = .slice A1 4 c1 := ev
       clear ev
       subst ev2
       obtain ⟨ad, ea, p0⟩ := Kd.at_string (Kd.R_reads' hR).2.2 (0 : Int) (by decide) (by simp)
       cases ea
       have p1 := p0
       obtain ⟨ad1, ea, p1⟩ := Kd.at_string (Kd.R_reads' hR).2.2 (1 : Int) (by decide) (by simp)
       cases ea
       obtain ⟨ad2, ea, p2⟩ := Kd.at_string (Kd.R_reads' hR).2.2 (2 : Int) (by decide) (by simp)
       cases ea
       obtain ⟨ad3, ea, p3⟩ := Kd.at_string (Kd.R_reads' hR).2.2 (3 : Int) (by decide) (by simp)
       cases ea
       replace p0 : w1.cell? (ad.add 0) = some (.string (mkB a)) := p0
       replace p1 : w1.cell? ⟨ad.block, ad.off + 1, none⟩ = some (.string (mkB b)) := by
         have h5 : w1.cell? (ad.add 1) = some (.string (mkB b)) := p1
         unfold Addr.add at h5
         rw [if_neg (by decide)] at h5
         exact h5
       replace p2 : w1.cell? ⟨ad.block, ad.off + 2, none⟩ = some (.string (mkB c)) := by
         have h5 : w1.cell? (ad.add 2) = some (.string (mkB c)) := p2
         unfold Addr.add at h5
         rw [if_neg (by decide)] at h5
         exact h5
       replace p3 : w1.cell? ⟨ad.block, ad.off + 3, none⟩ = some (.string (mkB d)) := by
         have h5 : w1.cell? (ad.add 3) = some (.string (mkB d)) := p3
         unfold Addr.add at h5
         rw [if_neg (by decide)] at h5
         exact h5
       have p0' : w1.cell? ad = some (.string (mkB a)) := by rw [show ad.add 0 = ad from by unfold Addr.add; rw [if_pos rfl]] at p0; exact p0
       have B1 := Lib.hid (below_step B0.out hb)
       have K1 := Lib.hid ((hb.block _ (blk_lt K0.out)).trans K0.out)
       clear hb hR HS)
    | (go_at_call 31
       with_reducible refine (numsI a HA.out _ (HG.out _ B1.out) ws o0 HNA.out).mono ?_
       rintro e w2 ⟨v, rfl, hR, hb⟩
       obtain ⟨A2, c2, rfl⟩ := Kd.R_slice hR
       have q1 := bcellT hb p1
       have q2 := bcellT hb p2
       have q3 := bcellT hb p3
       have R2 := Lib.hid (Kd.R_lower hR (show w.heap.size ≤ w1.heap.size from B1.out.size))
       have B2 := Lib.hid (below_step B1.out hb)
       have K2 := Lib.hid ((hb.block _ (blk_lt K1.out)).trans K1.out)
       clear hb hR p0 p0' p1 p2 p3)
    | (go_at_call 32
       with_reducible refine (numqC b HB.out 40 _ (HG.out _ B2.out) n1 o1 HNB.out).mono ?_
       rintro e w3 ⟨rfl, hb⟩
       have r2 := bcellT hb q2
       have r3 := bcellT hb q3
       have R3 := Lib.hid (Kd.R_below R2.out hb)
       have B3 := Lib.hid (below_step B2.out hb)
       have K3 := Lib.hid ((hb.block _ (blk_lt K2.out)).trans K2.out)
       clear hb q1 q2 q3)
    | (go_at_call 32
       with_reducible refine (numqC c HCC.out 10 _ (HG.out _ B3.out) n2 o2 HNC.out).mono ?_
       rintro e w4 ⟨rfl, hb⟩
       have s3 := bcellT hb r3
       have R4 := Lib.hid (Kd.R_below R3.out hb)
       have B4 := Lib.hid (below_step B3.out hb)
       have K4 := Lib.hid ((hb.block _ (blk_lt K3.out)).trans K3.out)
       clear hb r2 r3))
  cases o0 with
  | false =>
    have e := bad rfl
    rw [HH.out] at e
    obtain ⟨rfl, rfl⟩ := Prod.mk.inj e
    clear e bad
    have hst : (storeCells ⟨w.heap.size, 0, none⟩ ZF.toList 0).run Tryz.prog w4 = .ok () (w4.setRow w.heap.size ZF) := storeF K4.out Z26_len Z26_len
    have PE := Lib.hid (setRow_heap w4 w.heap.size _ ZF U (0, 0) K4.out)
    go_wp2
    refine bodyPost_ret (results_face rfl _ _ w.heap.size U Z26 Z26_len 0 0 (.slice none 0 0) rfl PE.out) rfl ?_
    exact ⟨none, 0, rfl, Kd.R_nil _ _ _ _ _, below_setRow B4.out (Nat.le_refl _) _⟩
  | true =>
  cases o1 with
  | false =>
    have e := bad rfl
    rw [HH.out] at e
    obtain ⟨rfl, rfl⟩ := Prod.mk.inj e
    clear e bad
    have hst : (storeCells ⟨w.heap.size, 0, none⟩ ZF.toList 0).run Tryz.prog w4 = .ok () (w4.setRow w.heap.size ZF) := storeF K4.out Z26_len Z26_len
    have PE := Lib.hid (setRow_heap w4 w.heap.size _ ZF U (0, 0) K4.out)
    go_wp2
    refine bodyPost_ret (results_face rfl _ _ w.heap.size U Z26 Z26_len 0 0 (.slice none 0 0) rfl PE.out) rfl ?_
    exact ⟨none, 0, rfl, Kd.R_nil _ _ _ _ _, below_setRow B4.out (Nat.le_refl _) _⟩
  | true =>
  cases o2 with
  | false =>
    have e := bad rfl
    rw [HH.out] at e
    obtain ⟨rfl, rfl⟩ := Prod.mk.inj e
    clear e bad
    have hst : (storeCells ⟨w.heap.size, 0, none⟩ ZF.toList 0).run Tryz.prog w4 = .ok () (w4.setRow w.heap.size ZF) := storeF K4.out Z26_len Z26_len
    have PE := Lib.hid (setRow_heap w4 w.heap.size _ ZF U (0, 0) K4.out)
    go_wp2
    refine bodyPost_ret (results_face rfl _ _ w.heap.size U Z26 Z26_len 0 0 (.slice none 0 0) rfl PE.out) rfl ?_
    exact ⟨none, 0, rfl, Kd.R_nil _ _ _ _ _, below_setRow B4.out (Nat.le_refl _) _⟩
  | true =>
  clear bad
  obtain ⟨hT, h26, hws, hn1, hn2⟩ := goodI_true HRF.out HNA.out HNB.out HNC.out
  have HT := Lib.hid hT
  have H26 := Lib.hid h26
  have HWS := Lib.hid hws
  have H40 := Lib.hid (And.intro hn1 hn2)
  have v1 : IntKind.i8.wrap n1 = n1 := IntWalk.i8_in _ (by omega)
  have v2 : IntKind.i8.wrap n2 = n2 := IntWalk.i8_in _ (by omega)
  clear hT h26 hws hn1 hn2 HRF
  have hst1 := store_new w4 U Z26 Z26_len n1 n2 none 0 0
  rw [← FV_two n1 n2] at hst1
  have I5 := Lib.hid (RI.mk (boxed w4 U Z26 n1 n2 (.slice none 0 0)).2.1 (boxed w4 U Z26 n1 n2 (.slice none 0 0)).1)
  go_upto_region 10 with (fail)
  clear hst1 v1 v2 hm1 hm2
  go_wp2
  go_loopw [63] (fun i wr => ∃ k : Nat, k ≤ ws.length ∧ i = .int .i64 k ∧ RowKit.Hid (RI (FV (ws.take k ++ Z26.drop k) n1 n2 (.slice none 0 0)) U w4 wr)) (fun i _ => ws.length - (intOf i).toNat)
  case atStart => exact ⟨0, Nat.zero_le _, rfl, I5⟩
  case round =>
    obtain ⟨k, hk, rfl, HI⟩ := hrel
    by_cases hk2 : k < ws.length
    · have hk3 : (k : Int) < (ws.length : Int) := by omega
      have hk26 : k < 26 := by have := H26.out; omega
      obtain ⟨ad, ea, px⟩ := Kd.at_int (Kd.R_reads' (Kd.R_below R4.out HI.out.b)).2.2 (k : Int) (by omega) hk3
      rw [Pure.rd_get ws k hk2, Int.toNat_natCast] at px
      obtain ⟨n, hn⟩ : ∃ n, n = ws[k] := ⟨_, rfl⟩
      rw [← hn] at px
      have hnn := HWS.out n (by rw [hn]; exact List.getElem_mem _)
      have v3 : IntKind.i8.wrap n = n := IntWalk.i8_in _ (by omega)
      have HNK := Lib.hid hn
      subst ea
      have g6 := (blk_cell HI.out.k k).trans (FV_lt _ (by rw [List.length_append, List.length_take, List.length_drop, Z26_len]; omega) n1 n2 (.slice none 0 0) k hk26)
      have f6 := blk_frozen HI.out.k k
      have hk27 : (k : Int) < 26 := by omega
      clear hn hnn
      go_wp2
      go_roundw
      case measure => simp only [intOf]; omega
      case rel => exact ⟨k + 1, by omega, by go_num, Lib.hid (HI.out.put k (by rw [HNK.out]; exact FV_take H26.out k hk26 n1 n2 _))⟩
    · have hk3 : ¬ (k : Int) < (ws.length : Int) := by omega
      have HI2 := Lib.hid (show RI (FV ws n1 n2 (.slice none 0 0)) U w4 wr by have h1 := HI.out; rw [FV_all H26.out k (by have := H26.out; omega)] at h1; exact h1)
      have s3r := bcellT HI2.out.b s3
      have HFD := Lib.hid (fun W (hb : Below w.heap.size w W) => fieldsC d HD.out W (HG.out W hb))
      obtain ⟨pb, hpb⟩ : ∃ pb, pb = (Lib.fieldsD d).map mkB := ⟨_, rfl⟩
      rw [← hpb] at HFD
      have hpl : (pb.length : Int) ≤ 1048576 := by rw [hpb, List.length_map]; have := fieldsD_len d; have := HD.out; omega
      have HPB := Lib.hid hpb
      clear HI hk2 hk s3 hpb
      go_wp2_with (first
        | (go_at_call 33
           with_reducible refine (HFD.out _ (below_step B4.out HI2.out.b)).mono ?_
           rintro e w5 ⟨v, rfl, hR, hb⟩
           obtain ⟨A5, c5, ev⟩ := Kd.R_slice hR
           subst ev
           have I5b := Lib.hid (HI2.out.step hb)
           have R5 := Lib.hid (Kd.R_lower (Kd.R_mono (Kd.R_bound hR) (fun k hk => show w4.heap.size < k by have h1 := hk.2.1; have h2 := HI2.out.sz; omega)) (show w4.heap.size ≤ wr.heap.size by have := HI2.out.sz; omega))
           clear hb hR s3r))
      go_loopw [79] (fun i wq => ∃ (k : Nat) (l : List S33) (B : Option Addr) (dd : Nat), k ≤ pb.length ∧ i = .int .i64 k ∧ RowKit.Hid (l.length = k ∧ allM prI ((Lib.fieldsD d).take k) = some l) ∧ RowKit.Hid (RI (FV ws n1 n2 (.slice B l.length dd)) U w4 wq) ∧ RowKit.Hid (Kd.R k33 33 wq w4.heap.size (fun k => w4.heap.size < k) (.slice B l.length dd) l) ∧ RowKit.Hid (Kd.R Kd.string 9 wq w4.heap.size (fun k => w4.heap.size < k) (.slice A5 pb.length c5) pb)) (fun i _ => pb.length - (intOf i).toNat)
      case atStart => exact ⟨0, [], none, 0, Nat.zero_le _, rfl, Lib.hid ⟨rfl, rfl⟩, I5b, Lib.hid (Kd.R_nil _ _ _ _ _), R5⟩
      case round =>
        obtain ⟨k, l, B, dd, hk, rfl, HL, HI, HP, HW⟩ := hrel
        by_cases hk2 : k < pb.length
        · have hk3 : (k : Int) < (pb.length : Int) := by omega
          have hkl : k < (Lib.fieldsD d).length := by have h1 := HPB.out; rw [h1, List.length_map] at hk2; exact hk2
          obtain ⟨x, hxx⟩ : ∃ x, x = (Lib.fieldsD d)[k] := ⟨_, rfl⟩
          have HX := Lib.hid hxx
          have hxl : x.length ≤ 1048576 := by have h1 := (fieldsD_mem d x (by rw [hxx]; exact List.getElem_mem _)).2; have := HD.out; omega
          obtain ⟨ad2, ea, px⟩ := Kd.at_string (Kd.R_reads' HW.out).2.2 (k : Int) (by omega) (by omega)
          rw [HPB.out, rdMk _ _ hkl, ← hxx, Int.toNat_natCast] at px
          obtain ⟨xb, hxb⟩ : ∃ xb, xb = mkB x := ⟨_, rfl⟩
          rw [← hxb] at px
          subst ea
          clear hxx
          have hxz : xb.size = x.length := by rw [hxb, mk_size]
          by_cases h4 : x.length < 4
          · have h5 : (xb.size : Int) < 4 := by omega
            have h6 : decide ((xb.size : Int) < 4) = true := decide_eq_true h5
            have e := readI_none (HT.out.trans (tailI_bad (allM_bad (x := x) (by rw [HX.out]; exact List.getElem_mem _) (prI_short h4))))
            rw [HH.out] at e
            obtain ⟨rfl, rfl⟩ := Prod.mk.inj e
            have K7 := Lib.hid ((HI.out.b.block _ (blk_lt K4.out)).trans K4.out)
            have B7 := Lib.hid (below_step B4.out HI.out.b)
            clear e h4 hxz hxb hxl
            have hst : (storeCells ⟨w.heap.size, 0, none⟩ ZF.toList 0).run Tryz.prog wr = .ok () (wr.setRow w.heap.size ZF) := storeF K7.out Z26_len Z26_len
            have PE := Lib.hid (setRow_heap wr w.heap.size _ ZF U (0, 0) K7.out)
            go_wp2
            refine bodyPost_ret (results_face rfl _ _ w.heap.size U Z26 Z26_len 0 0 (.slice none 0 0) rfl PE.out) rfl ?_
            exact ⟨none, 0, rfl, Kd.R_nil _ _ _ _ _, below_setRow B7.out (Nat.le_refl _) _⟩
          · have h5 : ¬ (xb.size : Int) < 4 := by omega
            have h6 : decide ((xb.size : Int) < 4) = false := decide_eq_false h5
            obtain ⟨p, hp⟩ : ∃ p, numQ 10 (x.drop 3) = p := ⟨_, rfl⟩
            obtain ⟨n, ok⟩ := p
            have h40 : 4 ≤ x.length := Nat.le_of_not_lt h4
            have HPR := Lib.hid (prI_long h40 hp)
            have HC := Lib.hid (fun W hG => numqC (x.drop 3) (by rw [List.length_drop]; omega) 10 W hG n ok hp)
            rw [← mk_drop x 3 (by omega), ← hxb] at HC
            have h3 : ¬ (xb.size : Int) < 3 := by omega
            have HXB := Lib.hid hxb
            clear hxb hxz hxl hp
            go_upto_if 94 with (first
              | (go_at_call 32
                 with_reducible refine (HC.out _ (HG.out _ (below_step B4.out HI.out.b))).mono ?_
                 rintro e w6 ⟨rfl, hb⟩
                 have I6 := Lib.hid (HI.out.step hb)
                 have P6 := Lib.hid (Kd.R_below HP.out hb)
                 have W6 := Lib.hid (Kd.R_below HW.out hb)
                 clear hb px HI HP HW))
            cases ok with
            | false =>
              have e := readI_none (HT.out.trans (tailI_bad (allM_bad (x := x) (by rw [HX.out]; exact List.getElem_mem _) (HPR.out.1.trans (if_neg (by decide))))))
              rw [HH.out] at e
              obtain ⟨rfl, rfl⟩ := Prod.mk.inj e
              have K7 := Lib.hid ((I6.out.b.block _ (blk_lt K4.out)).trans K4.out)
              have B7 := Lib.hid (below_step B4.out I6.out.b)
              clear e
              have hst : (storeCells ⟨w.heap.size, 0, none⟩ ZF.toList 0).run Tryz.prog w6 = .ok () (w6.setRow w.heap.size ZF) := storeF K7.out Z26_len Z26_len
              have PE := Lib.hid (setRow_heap w6 w.heap.size _ ZF U (0, 0) K7.out)
              go_wp2
              refine bodyPost_ret (results_face rfl _ _ w.heap.size U Z26 Z26_len 0 0 (.slice none 0 0) rfl PE.out) rfl ?_
              exact ⟨none, 0, rfl, Kd.R_nil _ _ _ _ _, below_setRow B7.out (Nat.le_refl _) _⟩
            | true =>
              go_upto_if 98 with (fail)
              have hz0 : 0 < xb.size := by omega
              have hz1 : 1 < xb.size := by omega
              have hz2 : 2 < xb.size := by omega
              obtain ⟨m, hm⟩ : ∃ m : Int, m = (if (xb[2]'hz2) = 45 then -n else n) := ⟨_, rfl⟩
              have hnn := HPR.out.2
              have HPX := Lib.hid (show prI x = some ⟨((xb[0]'hz0).toNat : Int), ((xb[1]'hz1).toNat : Int), m⟩ from by
                rw [HPR.out.1, if_pos trivial, hm]
                have hb := HXB.out
                subst hb
                rfl)
              have hmm : -10 ≤ m ∧ m ≤ 10 := by rw [hm]; split <;> omega
              have vn : IntKind.i64.wrap (-n) = -n := IntWalk.i64_in _ (by omega)
              go_cut [16] (fun s16 wx => s16 = .int .i64 m ∧ wx = w6)
              case first =>
                by_cases h45 : (xb[2]'hz2) = 45
                · have t1 : (((xb[2]'hz2).toNat : Int) == 45) = true := by rw [h45]; rfl
                  have HM1 := Lib.hid (show m = -n by rw [hm, if_pos h45])
                  clear hm h45
                  rw [t1]
                  go_wp2
                  go_meet
                  exact ⟨by rw [HM1.out], rfl⟩
                · have t1 : (((xb[2]'hz2).toNat : Int) == 45) = false := by
                    refine beq_eq_false_iff_ne.2 (fun he => h45 (UInt8.toNat_inj.1 ?_))
                    exact Int.ofNat.inj he
                  have HM1 := Lib.hid (show m = n by rw [hm, if_neg h45])
                  clear hm h45
                  rw [t1]
                  go_wp2
                  go_meet
                  exact ⟨by rw [HM1.out], rfl⟩
              case rest =>
              obtain ⟨rfl, hw⟩ := hcut
              have hw2 := hw.symm
              subst hw2
              clear hw hm hnn vn
              have v8 : IntKind.i8.wrap m = m := IntWalk.i8_in _ (by omega)
              obtain ⟨l2, hl2⟩ : ∃ l2, l ++ [⟨((xb[0]'hz0).toNat : Int), ((xb[1]'hz1).toNat : Int), m⟩] = l2 := ⟨_, rfl⟩
              have HL2 := Lib.hid (show l2.length = k + 1 ∧ allM prI ((Lib.fieldsD d).take (k + 1)) = some l2 from ⟨by rw [← hl2, List.length_append, HL.out.1]; rfl, by rw [← hl2]; exact allM_snoc hkl HL.out.2 (by rw [← HX.out]; exact HPX.out)⟩)
              have HE2 := Lib.hid hl2
              clear hl2 hmm
              have I7 := Lib.hid (I6.out.step (below_drew1 (Below.refl w6.heap.size w6)))
              have P7 := Lib.hid (Kd.R_below P6.out (below_drew1 (Below.refl w6.heap.size w6)))
              have W7 := Lib.hid (Kd.R_below W6.out (below_drew1 (Below.refl w6.heap.size w6)))
              have c28 := (blk_cell I7.out.k 28).trans (FV_28 ws H26.out _ _ _)
              clear I6 P6 W6
              go_wp2
              have hz0i : (0 : Int) < (xb.size : Int) := by omega
              have hz1i : (1 : Int) < (xb.size : Int) := by omega
              refine start_ (n := 13) (S := fun w' => w'.cell? ⟨w4.heap.size, 28, none⟩ = some (.slice B l.length dd)) (ds := [12]) #[false, false, false, false, false, false, false, false, false, false, false, false, false] (by kernel_rfl) rfl rfl c28 (fun hHeld => ?_)
              generalize w6.drew = wq at I7 P7 W7 c28 hHeld ⊢
              refine pure_ (i := 0) (N := some 101) (v := ?_) (a' := ?_) #[true, false, false, false, false, false, false, false, false, false, false, false, false] rfl rfl (by kernel_rfl) (fun _ _ _ h => h) (Or.inl ⟨by rfl, ?_⟩) ?_ ?_
              rotate_left
              · intro w'
                go_simp
                with_reducible rfl
              rotate_left
              · simp only [Act.put, List.setIfInBounds_toArray, List.set_cons_zero, List.set_cons_succ, i64_w, i32_w]
                rfl
              refine take_ (i := 1) (N := some 102) (v := ?_) (a' := ?_) #[true, true, false, false, false, false, false, false, false, false, false, false, false] rfl rfl (by kernel_rfl) (fun _ _ _ h => h) (Or.inl ⟨by rfl, ?_⟩) hHeld ?_ ?_
              rotate_left
              · rintro w' hS
                go_simp
                with_reducible rfl
              rotate_left
              · simp only [Act.put, List.setIfInBounds_toArray, List.set_cons_zero, List.set_cons_succ, i64_w, i32_w]
                rfl
              refine pure_ (i := 2) (N := some 103) (v := ?_) (a' := ?_) #[true, true, true, false, false, false, false, false, false, false, false, false, false] rfl rfl (by kernel_rfl) (fun _ _ _ h => h) (Or.inl ⟨by rfl, ?_⟩) ?_ ?_
              rotate_left
              · intro w'
                go_simp
                with_reducible rfl
              rotate_left
              · simp only [Act.put, List.setIfInBounds_toArray, List.set_cons_zero, List.set_cons_succ, i64_w, i32_w]
                rfl
              refine pure_ (i := 3) (N := some 104) (v := ?_) (a' := ?_) #[true, true, true, true, false, false, false, false, false, false, false, false, false] rfl rfl (by kernel_rfl) (fun _ _ _ h => h) (Or.inl ⟨by rfl, ?_⟩) ?_ ?_
              rotate_left
              · intro w'
                go_simp
                with_reducible rfl
              rotate_left
              · simp only [Act.put, List.setIfInBounds_toArray, List.set_cons_zero, List.set_cons_succ, i64_w, i32_w]
                rfl
              refine pure_ (i := 4) (N := some 105) (v := ?_) (a' := ?_) #[true, true, true, true, true, false, false, false, false, false, false, false, false] rfl rfl (by kernel_rfl) (fun _ _ _ h => h) (Or.inl ⟨by rfl, ?_⟩) ?_ ?_
              rotate_left
              · intro w'
                go_simp
                with_reducible rfl
              rotate_left
              · simp only [Act.put, List.setIfInBounds_toArray, List.set_cons_zero, List.set_cons_succ, i64_w, i32_w]
                rfl
              refine pure_ (i := 5) (N := some 106) (v := ?_) (a' := ?_) #[true, true, true, true, true, true, false, false, false, false, false, false, false] rfl rfl (by kernel_rfl) (fun _ _ _ h => h) (Or.inl ⟨by rfl, ?_⟩) ?_ ?_
              rotate_left
              · intro w'
                go_simp
                with_reducible rfl
              rotate_left
              · simp only [Act.put, List.setIfInBounds_toArray, List.set_cons_zero, List.set_cons_succ, i64_w, i32_w]
                rfl
              refine pure_ (i := 6) (N := some 107) (v := ?_) (a' := ?_) #[true, true, true, true, true, true, true, false, false, false, false, false, false] rfl rfl (by kernel_rfl) (fun _ _ _ h => h) (Or.inl ⟨by rfl, ?_⟩) ?_ ?_
              rotate_left
              · intro w'
                go_simp
                with_reducible rfl
              rotate_left
              · simp only [Act.put, List.setIfInBounds_toArray, List.set_cons_zero, List.set_cons_succ, i64_w, i32_w]
                rfl
              refine pure_ (i := 7) (N := some 108) (v := ?_) (a' := ?_) #[true, true, true, true, true, true, true, true, false, false, false, false, false] rfl rfl (by kernel_rfl) (fun _ _ _ h => h) (Or.inl ⟨by rfl, ?_⟩) ?_ ?_
              rotate_left
              · intro w'
                go_simp
                with_reducible rfl
              rotate_left
              · simp only [Act.put, List.setIfInBounds_toArray, List.set_cons_zero, List.set_cons_succ, i64_w, i32_w]
                rfl
              refine pure_ (i := 8) (N := some 109) (v := ?_) (a' := ?_) #[true, true, true, true, true, true, true, true, true, false, false, false, false] rfl rfl (by kernel_rfl) (fun _ _ _ h => h) (Or.inl ⟨by rfl, ?_⟩) ?_ ?_
              rotate_left
              · intro w'
                go_simp
                with_reducible rfl
              rotate_left
              · simp only [Act.put, List.setIfInBounds_toArray, List.set_cons_zero, List.set_cons_succ, i64_w, i32_w]
                rfl
              refine one_ (i := 9) (N := some 110) #[true, true, true, true, true, true, true, true, true, true, false, false, false] rfl rfl (by kernel_rfl) (by decide) (fun K hK => ?_)
              refine value_ (w1 := ?_) (v := ?_) (by rfl) rfl ?_ ?_
              rotate_left 2
              · go_simp
                constructor
                · rfl
                · rfl
              refine hK.out _ _ (pw_cell_below (below_alloc (Below.refl _ _) _) hHeld) (fun _ => ?_)
              clear hK K
              refine norm_ (a' := ?_) ?_ ?_
              rotate_left
              · show Act.put _ (some 110) _ = _
                simp only [Act.put, List.setIfInBounds_toArray, List.set_cons_zero, List.set_cons_succ, i64_w, i32_w]
                rfl
              refine one_ (i := 10) (N := some 111) #[true, true, true, true, true, true, true, true, true, true, true, false, false] rfl rfl (by kernel_rfl) (by decide) (fun K hK => ?_)
              refine Kd.R_append_step k33 (w0 := w4) w4.heap.size (by rfl) (.tmp 102) (.tmp 110) 26 33 (.agg #[.int .u8 0, .int .u8 0, .int .i8 0]) 3 rfl Tryz.underlying26 info33' rfl (by decide) (by omega) (.slice B l.length dd) l ⟨((xb[0]'hz0).toNat : Int), ((xb[1]'hz1).toNat : Int), m⟩ [.int .u8 ((xb[0]'hz0).toNat : Int), .int .u8 ((xb[1]'hz1).toNat : Int), .int .i8 m] (fun k => w4.heap.size < k) (fun _ => False) rfl rfl ?aP (fun _ hk => hk.elim) ?aF ?aO ?aB ?aS ?aL ?_
              (case aP => exact k33_mkM _ _ _ ⟨((xb[0]'hz0).toNat : Int), ((xb[1]'hz1).toNat : Int), m⟩)
              (case aF => exact fun k hk => by have := I7.out.sz; omega)
              (case aO => exact P7.out)
              (case aB => exact I7.out.b)
              (case aS => exact I7.out.b.size)
              (case aL => have := HL.out.1; omega)
              intro v9 w9 ho hb hg hat
              have NB := Lib.hid (show (Value.slice B l.length dd).ownBlock ≠ some w4.heap.size from fun he => Nat.lt_irrefl _ (P7.out.1 _ he))
              have I9 := Lib.hid (I7.out.grown hg NB.out hb)
              have W9 := Lib.hid (Kd.R_over' W7.out (Kd.R_typed P7.out) (fun q hq => by have h5 : q ∈ [9] := hq; rw [List.mem_singleton.1 h5]; decide) hg)
              rw [HE2.out] at ho
              obtain ⟨B2, dz, rfl⟩ := Kd.R_slice ho
              have P9 := Lib.hid ho
              clear ho hb hg hat NB c28 I7 P7 W7 hHeld
              refine hK.out _ _ ((blk_cell I9.out.k 28).trans (FV_28 ws H26.out _ _ _)) (fun hHeld => ?_)
              clear hK K
              refine norm_ (a' := ?_) ?_ ?_
              rotate_left
              · show Act.put _ (some 111) _ = _
                simp only [Act.put, List.setIfInBounds_toArray, List.set_cons_zero, List.set_cons_succ, i64_w, i32_w]
                rfl
              refine pure_ (i := 11) (N := some 112) (v := ?_) (a' := ?_) #[true, true, true, true, true, true, true, true, true, true, true, true, false] rfl rfl (by kernel_rfl) (fun _ _ _ h => h) (Or.inl ⟨by rfl, ?_⟩) ?_ ?_
              rotate_left
              · intro w'
                go_simp
                with_reducible rfl
              rotate_left
              · simp only [Act.put, List.setIfInBounds_toArray, List.set_cons_zero, List.set_cons_succ, i64_w, i32_w]
                rfl
              refine last_ (i := 12) (N := none) #[true, true, true, true, true, true, true, true, true, true, true, true, true] rfl rfl (by kernel_rfl) (by decide) (fun K hK => ?_)
              refine skip_ (w1 := ?wn) (by rfl) rfl ?hrun ?_
              case hrun =>
                have f28 := blk_frozen I9.out.k 28
                go_simp
                with_reducible rfl
              refine hK.out _ _ ?_
              clear hK K
              refine done_ (by kernel_rfl) ?_
              go_wp2
              go_roundw
              case measure => simp only [intOf]; omega
              case rel => exact ⟨k + 1, l2, B2, dz, by omega, by go_num, HL2, Lib.hid (I9.out.put 28 (FV_set28 ws H26.out _ _ _ _)), Lib.hid (Kd.R_far P9.out (p := ⟨w4.heap.size, 28, none⟩) (fun k hk => by show k ≠ w4.heap.size; omega) _), Lib.hid (Kd.R_far W9.out (p := ⟨w4.heap.size, 28, none⟩) (fun k hk => by show k ≠ w4.heap.size; omega) _)⟩
        · have hk3 : ¬ (k : Int) < (pb.length : Int) := by omega
          have HLE := Lib.hid (show allM prI (Lib.fieldsD d) = some l by have h1 := HL.out.2; rw [List.take_of_length_le (by have h1 := HPB.out; rw [h1, List.length_map] at hk2; omega)] at h1; exact h1)
          have HN := Lib.hid (show l.length ≤ 1048576 by have := HL.out.1; omega)
          have HF := Lib.hid (fit_read H26.out HWS.out H40.out.1 H40.out.2 (fitI_pairs HLE.out))
          have HT3 := Lib.hid (HT.out.trans (tailI_some HLE.out))
          have hFv : ∀ v, (FV ws n1 n2 v).size = M := fun v => by rw [FV_size ws H26.out, HM.out]
          have HK5 := Lib.hid ((HI.out.b.block _ (blk_lt K4.out)).trans K4.out)
          have q5 := loadF HI.out.k H26.out HM.out
          obtain ⟨tx, htx⟩ : ∃ tx, faceTextR ws n1 n2 l = tx := ⟨_, rfl⟩
          have HQ := Lib.hid (implFaceTextC ws H26.out n1 n2 B dd l wr (HG.out _ (below_step B4.out HI.out.b)).toP (Kd.R_reads' HP.out).2.2 (Kd.R_reads' HP.out).2.1 HN.out HF.out)
          rw [htx] at HQ HT3
          clear hk2 hk HW HL htx
          by_cases het : tx = t
          · subst het
            have e := readI_some (HT3.out.trans (if_pos rfl))
            rw [HH.out] at e
            obtain ⟨rfl, rfl⟩ := Prod.mk.inj e
            clear e
            go_wp2_with (first
              | (go_at_call 9
                 with_reducible refine HQ.out.mono ?_
                 rintro e w9 ⟨rfl, hb⟩
                 have K9 := Lib.hid ((hb.block _ (blk_lt HK5.out)).trans HK5.out)
                 have I9 := Lib.hid (HI.out.step hb)
                 have P9 := Lib.hid (Kd.R_below HP.out hb)
                 have B9 := Lib.hid (below_step B4.out I9.out.b)
                 have q9 := loadF I9.out.k H26.out HM.out
                 have hst : (storeCells ⟨w.heap.size, 0, none⟩ (FV ws n1 n2 (.slice B l.length dd)).toList 0).run Tryz.prog w9 = .ok () (w9.setRow w.heap.size (FV ws n1 n2 (.slice B l.length dd))) := storeF K9.out Z26_len H26.out
                 have PE := Lib.hid (setRow_heap w9 w.heap.size _ (FV ws n1 n2 (.slice B l.length dd)) U (0, 0) K9.out)
                 clear hb q5))
            have hww := blk_lt K4.out
            refine bodyPost_ret (results_face rfl _ _ w.heap.size U ws H26.out n1 n2 (.slice B l.length dd) rfl PE.out) rfl ?_
            exact ⟨B, dd, rfl, Kd.R_lower (Kd.R_mono (Kd.R_step P9.out (fun k hk _ => setRow_other _ _ _ _ (by omega))) (fun _ _ => trivial)) (by omega), below_setRow B9.out (Nat.le_refl _) _⟩
          · have e := readI_none (HT3.out.trans (if_neg (fun he => het (ByteArray.ext (Array.toList_inj.1 he)))))
            rw [HH.out] at e
            obtain ⟨rfl, rfl⟩ := Prod.mk.inj e
            have t1 : (tx.toList == t.toList) = false := beq_eq_false_iff_ne.2 (fun he => het (by rw [ByteArray.toList_eq, ByteArray.toList_eq] at he; exact ByteArray.ext (Array.toList_inj.1 he)))
            clear e
            go_wp2_with (first
              | (go_at_call 9
                 with_reducible refine HQ.out.mono ?_
                 rintro e w9 ⟨rfl, hb⟩
                 have K9 := Lib.hid ((hb.block _ (blk_lt HK5.out)).trans HK5.out)
                 have B9 := Lib.hid (below_step B4.out (HI.out.step hb).b)
                 clear hb q5
                 have hst : (storeCells ⟨w.heap.size, 0, none⟩ ZF.toList 0).run Tryz.prog w9 = .ok () (w9.setRow w.heap.size ZF) := storeF K9.out Z26_len Z26_len
                 have PE := Lib.hid (setRow_heap w9 w.heap.size _ ZF U (0, 0) K9.out)))
            refine bodyPost_ret (results_face rfl _ _ w.heap.size U Z26 Z26_len 0 0 (.slice none 0 0) rfl PE.out) rfl ?_
            exact ⟨none, 0, rfl, Kd.R_nil _ _ _ _ _, below_setRow B9.out (Nat.le_refl _) _⟩
end Go.Proofs.YtimkkjkgbbfgbaaGreatDoor.Q
