/- spec.LoosenFace, by hand. -/
import Derived.Test.YtjaamcedgdhilaaQhandLoosen
namespace Go.Proofs.Ytjaamcedgdhilaa.Q
open Go.RowKit Go.Proofs.YtjaamcedgdhilaaW.PrintWords Go.Proofs.YtjaamcedgdhilaaW.PrintLast Go.Proofs.YtjaamcedgdhilaaW.PrintMore
open Go.Proofs.Ytjaamcedgdhilaa.Pure
set_option linter.unusedVariables false
set_option linter.unusedSimpArgs false

set_option maxHeartbeats 8000000 in
set_option maxRecDepth 100000 in
theorem specLoosenC (ws : List Int) (hx : ws.length = 26) (sp gp : Int) (A : Option Addr) (c : Nat) (l : List S46) (n : Int) (w : World) (hr : Kd.C k46 w A l.length l) (hc : l.length ≤ c) (hl : l.length ≤ 1048576) (hf : Fit ws sp gp l) (r : Face) (code : Int) (h : loosenR ws sp gp l n = (r, code)) :
    Calls Try.prog 17 #[.agg (FV ws sp gp (.slice A l.length c)), .int .i64 n] w fun e w' => ∃ B d, e = .returned (.tuple #[.agg (FV r.1 r.2.1 r.2.2.1 (.slice B r.2.2.2.length d)), .int .i64 code]) ∧ Kd.R k46 46 w' w.heap.size (fun _ => True) (.slice B r.2.2.2.length d) r.2.2.2 ∧ Below w.heap.size w w' := by
  go_enter Try.func17, Try.ntmps17
  obtain ⟨M, hM⟩ : ∃ M : Nat, M = 29 := ⟨_, rfl⟩
  obtain ⟨U, hU⟩ : ∃ U : TypeId, U = 31 := ⟨_, rfl⟩
  have huU := fun w => (show (underlying U).run Try.prog w = (underlying 31).run Try.prog w by rw [hU]).trans (run_underlying (P := Try.prog) (w := w) Try.underlying31)
  have hzU : ∀ w, (sizeOf U).run Try.prog w = .ok M w := fun w => by rw [hM, hU]; exact Try.sizeOf31 w
  have haU : ∀ w, (isAgg U).run Try.prog w = .ok true w := fun w => by rw [hU]; exact Try.isAgg31 w
  have hvU : ∀ w, (zeroValue U).run Try.prog w = .ok (.agg ZF) w := fun w => by rw [hU]; exact Try.zeroValue31 w
  have e2 : ∀ x, Op.load 31 x = Op.load U x := fun x => by rw [hU]
  have e3 : ∀ x y, Op.store 31 x y = Op.store U x y := fun x y => by rw [hU]
  have e4 : Op.alloc 31 = Op.alloc U := by rw [hU]
  have e5 : ∀ x, Op.build 31 x = Op.build U x := fun x => by rw [hU]
  simp only [e2, e3, e4, e5]
  clear e2 e3 e4 e5
  have hFa : ∀ g v, (FV ws sp g v).size = M := fun g v => by rw [FV_size ws hx, hM]
  have hFz : ZF.size = M := by rw [hM]; rfl
  have HM := Lib.hid hM
  have HX := Lib.hid hx
  have HR := Lib.hid hr
  have HC := Lib.hid hc
  have HL := Lib.hid hl
  have HF := Lib.hid hf
  clear hM hU hx hr hc hl hf
  have H2 := Lib.hid (two_blocks w (.cells (FV ws sp gp (.slice A l.length c)) 31) (.cells ZF U))
  have HB := Lib.hid (below_alloc (below_alloc (Below.refl w.heap.size w) (.cells (FV ws sp gp (.slice A l.length c)) 31)) (.cells ZF U))
  have HS2 := Lib.hid (show ((w.alloc (.cells (FV ws sp gp (.slice A l.length c)) 31)).alloc (.cells ZF U)).heap.size = w.heap.size + 2 by simp)
  have q0 := loadF H2.out.1 HX.out HM.out
  unfold loosenR at h
  cases hv : validB ws sp gp l with
  | false =>
    rw [hv, if_neg (by simp)] at h
    obtain ⟨rfl, rfl⟩ := Prod.mk.inj h
    have EV := Lib.hid hv
    clear hv h
    go_wp2_with (first
      | (go_at_call 25
         with_reducible refine (l01FaceC ws HX.out sp gp A c l w.heap.size _ H2.out.1 (Kd.C_below HR.out HB.out) HC.out HL.out HF.out).mono ?_
         rintro e w1 ⟨rfl, hb⟩
         rw [EV.out]
         have B1 := Lib.hid (below_step HB.out hb)
         have S1 := Lib.hid (show w.heap.size + 2 ≤ w1.heap.size from HS2.out ▸ hb.size)
         have K0 := Lib.hid ((hb.block w.heap.size (by rw [HS2.out]; omega)).trans H2.out.1)
         have K1 := Lib.hid ((hb.block (w.heap.size + 1) (by rw [HS2.out]; omega)).trans H2.out.2)
         clear hb q0
         have hst : (storeCells ⟨w.heap.size + 1, 0, none⟩ ZF.toList 0).run Try.prog w1 = .ok () (w1.setRow (w.heap.size + 1) ZF) := storeF K1.out Z26_len Z26_len
         have PE := Lib.hid (setRow_heap w1 (w.heap.size + 1) _ ZF U (0, 0) K1.out)))
    refine bodyPost_ret (results_face rfl _ _ (w.heap.size + 1) U Z26 Z26_len 0 0 (.slice none 0 0) rfl PE.out) rfl ?_
    exact ⟨none, 0, rfl, Kd.R_nil _ _ _ _ _, below_setRow B1.out (by omega) _⟩
  | true =>
  rw [hv, if_pos rfl] at h
  have hgap := valid_gap hv
  have EV := Lib.hid hv
  clear hv
  cases hn : inB n (-10) 10 with
  | false =>
    rw [hn, if_neg (by simp)] at h
    obtain ⟨rfl, rfl⟩ := Prod.mk.inj h
    have EN := Lib.hid hn
    clear hn h
    go_wp2_with (first
      | (go_at_call 25
         with_reducible refine (l01FaceC ws HX.out sp gp A c l w.heap.size _ H2.out.1 (Kd.C_below HR.out HB.out) HC.out HL.out HF.out).mono ?_
         rintro e w1 ⟨rfl, hb⟩
         rw [EV.out]
         have B1 := Lib.hid (below_step HB.out hb)
         have S1 := Lib.hid (show w.heap.size + 2 ≤ w1.heap.size from HS2.out ▸ hb.size)
         have K0 := Lib.hid ((hb.block w.heap.size (by rw [HS2.out]; omega)).trans H2.out.1)
         have K1 := Lib.hid ((hb.block (w.heap.size + 1) (by rw [HS2.out]; omega)).trans H2.out.2)
         clear hb q0
         have hst : (storeCells ⟨w.heap.size + 1, 0, none⟩ ZF.toList 0).run Try.prog w1 = .ok () (w1.setRow (w.heap.size + 1) ZF) := storeF K1.out Z26_len Z26_len
         have PE := Lib.hid (setRow_heap w1 (w.heap.size + 1) _ ZF U (0, 0) K1.out))
      | (go_at_call 36; with_reducible refine (spec_in_is n (-10) 10 false _ EN.out).mono ?_; rintro e w' ⟨rfl, rfl⟩))
    refine bodyPost_ret (results_face rfl _ _ (w.heap.size + 1) U Z26 Z26_len 0 0 (.slice none 0 0) rfl PE.out) rfl ?_
    exact ⟨none, 0, rfl, Kd.R_nil _ _ _ _ _, below_setRow B1.out (by omega) _⟩
  | true =>
  rw [hn, if_pos rfl] at h
  have hten := in_ten hn
  have EN := Lib.hid hn
  clear hn
  have hw1 : IntKind.i8.wrap n = n := IntWalk.i8_in _ (by omega)
  have hw2 : IntKind.i8.wrap (gp + n) = gp + n := IntWalk.i8_in _ (by omega)
  have HF2 := Lib.hid (fit_gap HF.out (gp + n) (by omega) (by omega))
  obtain ⟨b, hb2⟩ : ∃ b, validB ws sp (gp + n) l = b := ⟨_, rfl⟩
  rw [hb2] at h
  have EB := Lib.hid hb2
  have EH := Lib.hid h
  clear hb2 h hgap hten
  cases b with
  | false =>
    obtain ⟨rfl, rfl⟩ := Prod.mk.inj ((if_neg (by simp)).symm.trans EH.out)
    clear EH
    go_wp2_with (first
      | (go_at_call 25
         with_reducible refine (l01FaceC ws HX.out sp gp A c l w.heap.size _ H2.out.1 (Kd.C_below HR.out HB.out) HC.out HL.out HF.out).mono ?_
         rintro e w1 ⟨rfl, hb⟩
         rw [EV.out]
         have B1 := Lib.hid (below_step HB.out hb)
         have S1 := Lib.hid (show w.heap.size + 2 ≤ w1.heap.size from HS2.out ▸ hb.size)
         have K0 := Lib.hid ((hb.block w.heap.size (by rw [HS2.out]; omega)).trans H2.out.1)
         have K1 := Lib.hid ((hb.block (w.heap.size + 1) (by rw [HS2.out]; omega)).trans H2.out.2)
         clear hb q0
         have g27 := (blk_cell K0.out 27).trans (FV_27 ws HX.out _ _ _)
         have fz27 := blk_frozen K0.out 27
         have P1 := Lib.hid (blk_far (p := ⟨w.heap.size, 27, none⟩) K1.out (by show w.heap.size + 1 ≠ w.heap.size; omega) (.int .i8 (gp + n)))
         have P0 := Lib.hid (blk_put K0.out 27 (.int .i8 (gp + n)) (FV_set27 ws HX.out sp gp (gp + n) _))
         have B3 := Lib.hid (show Below w.heap.size w (w1.setCell ⟨w.heap.size, 27, none⟩ (.int .i8 (gp + n))) from below_set B1.out (by omega))
         have S3 := Lib.hid (show w.heap.size + 2 ≤ (w1.setCell ⟨w.heap.size, 27, none⟩ (.int .i8 (gp + n))).heap.size by simp; exact S1.out))
      | (go_at_call 36; with_reducible refine (spec_in_is n (-10) 10 true _ EN.out).mono ?_; rintro e w' ⟨rfl, rfl⟩)
      | ((with_reducible refine gate_dst (N := 19) rfl ?_); refine Kd.R_lit k46 _ 46 ?hg (N := 19) ?hd (xs := ([] : List S46)) (inner := []) (ok := fun _ => True) (okp := fun _ => True) ?hr ?hp (fun _ hk => hk) trivial (Below.refl _ _) (Nat.le_refl _) (by simp) ?_; (case hd => rfl); (case hg => rfl); (case hr => first | (go_simp; done) | (go_simp; rfl)); (case hp => exact (Reps.none _ _)); intro v0 w7 ho8 hb hg_ hnew_; clear hg_ hnew_; have HO := Lib.hid ho8; have HB7 := Lib.hid hb; have HC7 := Lib.hid (Kd.C_below HR.out (below_step B3.out hb)); have c28 := (blk_cell ((hb.block w.heap.size (by have := S3.out; omega)).trans P0.out) 28).trans (FV_28 ws HX.out _ _ _); clear ho8 hb)
      | ((with_reducible refine gate_builtin (b := .append) (xs := #[.tmp 19, .tmp 21]) rfl ?_); at_builtin; refine Kd.R_append_rows k46 (w0 := (w1.setCell ⟨w.heap.size, 27, none⟩ (.int .i8 (gp + n)))) (w1.setCell ⟨w.heap.size, 27, none⟩ (.int .i8 (gp + n))).heap.size rfl (.tmp 19) (.tmp 21) 29 46 (.agg #[.int .u8 0, .int .u8 0, .int .i8 0]) 3 rfl Try.underlying29 info46' rfl (by decide) (by omega) v0 [] l _ _ _ (fun _ => True) (fun _ => False) rfl rfl ?aO ?aR (fun _ _ h => h) (fun _ h => h.elim) ?aF ?aB ?aS ?aL ?_; (case aO => exact HO.out); (case aR => exact HC7.out); (case aF => exact (fun _ _ => trivial)); (case aB => exact HB7.out); (case aS => exact HB7.out.size); (case aL => have := HL.out; simp; omega); intro v2 w8 ho hb hg hat
         have B8 := Lib.hid (below_step B3.out hb)
         have N0 := Lib.hid ((hb.block w.heap.size (by have := S3.out; omega)).trans P0.out)
         have N1 := Lib.hid ((hb.block (w.heap.size + 1) (by have := S3.out; omega)).trans P1.out)
         have g28 := (blk_cell N0.out 28).trans (FV_28 ws HX.out _ _ _)
         have fz28 := blk_frozen N0.out 28
         have ho2 : Kd.R k46 46 w8 (w1.setCell ⟨w.heap.size, 27, none⟩ (.int .i8 (gp + n))).heap.size (fun _ => True) v2 l := ho
         obtain ⟨B, d, rfl⟩ := Kd.R_slice ho2
         have RR := Lib.hid (Kd.R_lower (Kd.R_mono (Kd.R_bound ho2) (fun k hk => show w.heap.size + 1 < k by have h1 := hk.2.1; have h2 := S3.out; omega)) (show w.heap.size ≤ _ by have := S3.out; omega))
         have S8 := Lib.hid (show w.heap.size + 2 ≤ w8.heap.size from Nat.le_trans S3.out hb.size)
         have R5 := Lib.hid (Kd.R_far RR.out (p := ⟨w.heap.size, 28, none⟩) (fun k hk => by show k ≠ w.heap.size; omega) (.slice B l.length d))
         have Q1 := Lib.hid (blk_far (p := ⟨w.heap.size, 28, none⟩) N1.out (by show w.heap.size + 1 ≠ w.heap.size; omega) (.slice B l.length d))
         have Q0 := Lib.hid (blk_put N0.out 28 (.slice B l.length d) (FV_set28 ws HX.out sp (gp + n) _ _))
         clear ho ho2 hb hg hat c28)
      | (go_at_call 25
         with_reducible refine (l01FaceC ws HX.out sp (gp + n) B d l w.heap.size _ Q0.out (Kd.R_reads' R5.out).2.2 (Kd.R_reads' R5.out).2.1 HL.out HF2.out).mono ?_
         rintro e w6 ⟨rfl, hb⟩
         rw [EB.out]
         have B6 := Lib.hid (below_step (below_set B8.out (by omega)) hb)
         have T0 := Lib.hid ((hb.block w.heap.size (by have := S8.out; simp; omega)).trans Q0.out)
         have T1 := Lib.hid ((hb.block (w.heap.size + 1) (by have := S8.out; simp; omega)).trans Q1.out)
         have R6 := Lib.hid (Kd.R_below R5.out hb)
         clear hb
         have hst : (storeCells ⟨w.heap.size + 1, 0, none⟩ ZF.toList 0).run Try.prog w6 = .ok () (w6.setRow (w.heap.size + 1) ZF) := storeF T1.out Z26_len Z26_len
         have PE := Lib.hid (setRow_heap w6 (w.heap.size + 1) _ ZF U (0, 0) T1.out)))
    refine bodyPost_ret (results_face rfl _ _ (w.heap.size + 1) U Z26 Z26_len 0 0 (.slice none 0 0) rfl PE.out) rfl ?_
    exact ⟨none, 0, rfl, Kd.R_nil _ _ _ _ _, below_setRow B6.out (by omega) _⟩
  | true =>
    obtain ⟨rfl, rfl⟩ := Prod.mk.inj ((if_pos rfl).symm.trans EH.out)
    clear EH
    go_wp2_with (first
      | (go_at_call 25
         with_reducible refine (l01FaceC ws HX.out sp gp A c l w.heap.size _ H2.out.1 (Kd.C_below HR.out HB.out) HC.out HL.out HF.out).mono ?_
         rintro e w1 ⟨rfl, hb⟩
         rw [EV.out]
         have B1 := Lib.hid (below_step HB.out hb)
         have S1 := Lib.hid (show w.heap.size + 2 ≤ w1.heap.size from HS2.out ▸ hb.size)
         have K0 := Lib.hid ((hb.block w.heap.size (by rw [HS2.out]; omega)).trans H2.out.1)
         have K1 := Lib.hid ((hb.block (w.heap.size + 1) (by rw [HS2.out]; omega)).trans H2.out.2)
         clear hb q0
         have g27 := (blk_cell K0.out 27).trans (FV_27 ws HX.out _ _ _)
         have fz27 := blk_frozen K0.out 27
         have P1 := Lib.hid (blk_far (p := ⟨w.heap.size, 27, none⟩) K1.out (by show w.heap.size + 1 ≠ w.heap.size; omega) (.int .i8 (gp + n)))
         have P0 := Lib.hid (blk_put K0.out 27 (.int .i8 (gp + n)) (FV_set27 ws HX.out sp gp (gp + n) _))
         have B3 := Lib.hid (show Below w.heap.size w (w1.setCell ⟨w.heap.size, 27, none⟩ (.int .i8 (gp + n))) from below_set B1.out (by omega))
         have S3 := Lib.hid (show w.heap.size + 2 ≤ (w1.setCell ⟨w.heap.size, 27, none⟩ (.int .i8 (gp + n))).heap.size by simp; exact S1.out))
      | (go_at_call 36; with_reducible refine (spec_in_is n (-10) 10 true _ EN.out).mono ?_; rintro e w' ⟨rfl, rfl⟩)
      | ((with_reducible refine gate_dst (N := 19) rfl ?_); refine Kd.R_lit k46 _ 46 ?hg (N := 19) ?hd (xs := ([] : List S46)) (inner := []) (ok := fun _ => True) (okp := fun _ => True) ?hr ?hp (fun _ hk => hk) trivial (Below.refl _ _) (Nat.le_refl _) (by simp) ?_; (case hd => rfl); (case hg => rfl); (case hr => first | (go_simp; done) | (go_simp; rfl)); (case hp => exact (Reps.none _ _)); intro v0 w7 ho8 hb hg_ hnew_; clear hg_ hnew_; have HO := Lib.hid ho8; have HB7 := Lib.hid hb; have HC7 := Lib.hid (Kd.C_below HR.out (below_step B3.out hb)); have c28 := (blk_cell ((hb.block w.heap.size (by have := S3.out; omega)).trans P0.out) 28).trans (FV_28 ws HX.out _ _ _); clear ho8 hb)
      | ((with_reducible refine gate_builtin (b := .append) (xs := #[.tmp 19, .tmp 21]) rfl ?_); at_builtin; refine Kd.R_append_rows k46 (w0 := (w1.setCell ⟨w.heap.size, 27, none⟩ (.int .i8 (gp + n)))) (w1.setCell ⟨w.heap.size, 27, none⟩ (.int .i8 (gp + n))).heap.size rfl (.tmp 19) (.tmp 21) 29 46 (.agg #[.int .u8 0, .int .u8 0, .int .i8 0]) 3 rfl Try.underlying29 info46' rfl (by decide) (by omega) v0 [] l _ _ _ (fun _ => True) (fun _ => False) rfl rfl ?aO ?aR (fun _ _ h => h) (fun _ h => h.elim) ?aF ?aB ?aS ?aL ?_; (case aO => exact HO.out); (case aR => exact HC7.out); (case aF => exact (fun _ _ => trivial)); (case aB => exact HB7.out); (case aS => exact HB7.out.size); (case aL => have := HL.out; simp; omega); intro v2 w8 ho hb hg hat
         have B8 := Lib.hid (below_step B3.out hb)
         have N0 := Lib.hid ((hb.block w.heap.size (by have := S3.out; omega)).trans P0.out)
         have N1 := Lib.hid ((hb.block (w.heap.size + 1) (by have := S3.out; omega)).trans P1.out)
         have g28 := (blk_cell N0.out 28).trans (FV_28 ws HX.out _ _ _)
         have fz28 := blk_frozen N0.out 28
         have ho2 : Kd.R k46 46 w8 (w1.setCell ⟨w.heap.size, 27, none⟩ (.int .i8 (gp + n))).heap.size (fun _ => True) v2 l := ho
         obtain ⟨B, d, rfl⟩ := Kd.R_slice ho2
         have RR := Lib.hid (Kd.R_lower (Kd.R_mono (Kd.R_bound ho2) (fun k hk => show w.heap.size + 1 < k by have h1 := hk.2.1; have h2 := S3.out; omega)) (show w.heap.size ≤ _ by have := S3.out; omega))
         have S8 := Lib.hid (show w.heap.size + 2 ≤ w8.heap.size from Nat.le_trans S3.out hb.size)
         have R5 := Lib.hid (Kd.R_far RR.out (p := ⟨w.heap.size, 28, none⟩) (fun k hk => by show k ≠ w.heap.size; omega) (.slice B l.length d))
         have Q1 := Lib.hid (blk_far (p := ⟨w.heap.size, 28, none⟩) N1.out (by show w.heap.size + 1 ≠ w.heap.size; omega) (.slice B l.length d))
         have Q0 := Lib.hid (blk_put N0.out 28 (.slice B l.length d) (FV_set28 ws HX.out sp (gp + n) _ _))
         clear ho ho2 hb hg hat c28)
      | (go_at_call 25
         with_reducible refine (l01FaceC ws HX.out sp (gp + n) B d l w.heap.size _ Q0.out (Kd.R_reads' R5.out).2.2 (Kd.R_reads' R5.out).2.1 HL.out HF2.out).mono ?_
         rintro e w6 ⟨rfl, hb⟩
         rw [EB.out]
         have B6 := Lib.hid (below_step (below_set B8.out (by omega)) hb)
         have T0 := Lib.hid ((hb.block w.heap.size (by have := S8.out; simp; omega)).trans Q0.out)
         have T1 := Lib.hid ((hb.block (w.heap.size + 1) (by have := S8.out; simp; omega)).trans Q1.out)
         have R6 := Lib.hid (Kd.R_below R5.out hb)
         clear hb
         have q6 := loadF T0.out HX.out HM.out
         have hst := storeF T1.out Z26_len HX.out (sp' := sp) (gp' := gp + n) (A := B) (n := l.length) (c := d)
         have PE := Lib.hid (setRow_heap w6 (w.heap.size + 1) _ (FV ws sp (gp + n) (.slice B l.length d)) U (0, 0) T1.out)))
    refine bodyPost_ret (results_face rfl _ _ (w.heap.size + 1) U ws HX.out sp (gp + n) (.slice B l.length d) rfl PE.out) rfl ?_
    refine ⟨B, d, rfl, Kd.R_mono (Kd.R_step R6.out (fun k hk _ => setRow_other _ _ _ _ ?_)) (fun _ _ => trivial), below_setRow B6.out (by omega) _⟩
    omega
end Go.Proofs.Ytjaamcedgdhilaa.Q
