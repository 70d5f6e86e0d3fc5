/- impl.LoosenFace, spec.LoosenFace, by hand. -/
import Derived.Test.YtjaamcedgdhilaaQhandValidFace
import Derived.Test.YtjaamcedgdhilaaQhandLawKit
import Derived.Test.YtjaamcedgdhilaaQhandClone
namespace Go.Proofs.Ytjaamcedgdhilaa.Q
open Go.RowKit Go.Proofs.YtjaamcedgdhilaaW.PrintWords Go.Proofs.YtjaamcedgdhilaaW.PrintLast Go.Proofs.YtjaamcedgdhilaaW.PrintMore
open Go.Proofs.Ytjaamcedgdhilaa.Pure
set_option linter.unusedVariables false
set_option linter.unusedSimpArgs false

abbrev Face := List Int × Int × Int × List S46
def noFace : Face := (Z26, 0, 0, [])
def loosenR (ws : List Int) (sp gp : Int) (l : List S46) (n : Int) : Face × Int :=
  if validB ws sp gp l = true then (if inB n (-10) 10 = true then (if validB ws sp (gp + n) l = true then ((ws, sp, gp + n, l), 0) else (noFace, 4)) else (noFace, 4)) else (noFace, 1)
theorem valid_gap {ws : List Int} {sp gp : Int} {l : List S46} (h : validB ws sp gp l = true) : 0 ≤ gp ∧ gp ≤ 10 := by
  unfold validB faceB at h
  simp only [Bool.and_eq_true] at h
  have := h.1.2
  unfold inB at this
  simp only [Bool.and_eq_true, decide_eq_true_iff] at this
  exact this
theorem in_ten {n : Int} (h : inB n (-10) 10 = true) : -10 ≤ n ∧ n ≤ 10 := by
  unfold inB at h
  simp only [Bool.and_eq_true, decide_eq_true_iff] at h
  exact h
theorem fit_gap {ws : List Int} {sp gp : Int} {l : List S46} (h : Fit ws sp gp l) (x : Int) (h0 : -128 ≤ x) (h1 : x ≤ 127) : Fit ws sp x l := ⟨h.ws, h.sp, ⟨h0, h1⟩, h.pr⟩
theorem results_face {fn : Func} {p u : Tmp} (h : fn.results = #[.cell p 31, .tmp u]) (tmps : Array Value) (w : World) (g : Nat) (t : TypeId) (ws : List Int) (hx : ws.length = 26) (sp gp : Int) (v : Value)
    (hp : tmps.getD p undef = .pointer (some ⟨g, 0, none⟩)) (hg : w.heap[g]? = some (.cells (FV ws sp gp v) t (0, 0))) : (results fn tmps).run Try.prog w = .ok (.tuple #[.agg (FV ws sp gp v), tmps.getD u undef]) w := by
  rw [results_cell_tmp h, hp]
  have := run_loadVar_row (P := Try.prog) w g t 31 (FV ws sp gp v) (0, 0) _ hg Try.underlying31 rfl (by rw [FV_size ws hx]; kernel_rfl)
  simp [asAddr, Result.andThen, this]

set_option maxHeartbeats 8000000 in
set_option maxRecDepth 100000 in
theorem implLoosenC (ws : List Int) (hx : ws.length = 26) (sp gp : Int) (A : Option Addr) (c : Nat) (l : List S46) (n : Int) (w : World) (hr : Kd.C k46 w A l.length l) (hc : l.length ≤ c) (hl : l.length ≤ 1048576) (hf : Fit ws sp gp l) (r : Face) (code : Int) (h : loosenR ws sp gp l n = (r, code)) :
    Calls Try.prog 18 #[.agg (FV ws sp gp (.slice A l.length c)), .int .i64 n] w fun e w' => ∃ B d, e = .returned (.tuple #[.agg (FV r.1 r.2.1 r.2.2.1 (.slice B r.2.2.2.length d)), .int .i64 code]) ∧ Kd.R k46 46 w' w.heap.size (fun _ => True) (.slice B r.2.2.2.length d) r.2.2.2 ∧ Below w.heap.size w w' := by
  go_enter Try.func18, Try.ntmps18
  obtain ⟨M, hM⟩ : ∃ M : Nat, M = 29 := ⟨_, rfl⟩
  obtain ⟨U, hU⟩ : ∃ U : TypeId, U = 31 := ⟨_, rfl⟩
  have huU := fun w => (show (underlying U).run Try.prog w = (underlying 31).run Try.prog w by rw [hU]).trans (run_underlying (P := Try.prog) (w := w) Try.underlying31)
  have hzU : ∀ w, (sizeOf U).run Try.prog w = .ok M w := fun w => by rw [hM, hU]; exact Try.sizeOf31 w
  have haU : ∀ w, (isAgg U).run Try.prog w = .ok true w := fun w => by rw [hU]; exact Try.isAgg31 w
  have hvU : ∀ w, (zeroValue U).run Try.prog w = .ok (.agg ZF) w := fun w => by rw [hU]; exact Try.zeroValue31 w
  have e2 : ∀ x, Op.load 31 x = Op.load U x := fun x => by rw [hU]
  have e3 : ∀ x y, Op.store 31 x y = Op.store U x y := fun x y => by rw [hU]
  have e4 : Op.alloc 31 = Op.alloc U := by rw [hU]
  have e5 : ∀ x, Op.build 31 x = Op.build U x := fun x => by rw [hU]
  simp only [e2, e3, e4, e5]
  clear e2 e3 e4 e5
  have hFa : ∀ g v, (FV ws sp g v).size = M := fun g v => by rw [FV_size ws hx, hM]
  have hFz : ZF.size = M := by rw [hM]; rfl
  have HM := Lib.hid hM
  have HX := Lib.hid hx
  have HR := Lib.hid hr
  have HC := Lib.hid hc
  have HL := Lib.hid hl
  have HF := Lib.hid hf
  clear hM hU hx hr hc hl hf
  have H2 := Lib.hid (two_blocks w (.cells (FV ws sp gp (.slice A l.length c)) 31) (.cells ZF U))
  have HB := Lib.hid (below_alloc (below_alloc (Below.refl w.heap.size w) (.cells (FV ws sp gp (.slice A l.length c)) 31)) (.cells ZF U))
  have HS2 := Lib.hid (show ((w.alloc (.cells (FV ws sp gp (.slice A l.length c)) 31)).alloc (.cells ZF U)).heap.size = w.heap.size + 2 by simp)
  have q0 := loadF H2.out.1 HX.out HM.out
  unfold loosenR at h
  cases hv : validB ws sp gp l with
  | false =>
    rw [hv, if_neg (by simp)] at h
    obtain ⟨rfl, rfl⟩ := Prod.mk.inj h
    have EV := Lib.hid hv
    clear hv h
    go_wp2_with (first
      | (go_at_call 11
         with_reducible refine (implValidC ws HX.out sp gp A c l _ (Kd.C_below HR.out HB.out) HC.out HL.out HF.out false EV.out).mono ?_
         rintro e w1 ⟨rfl, hb⟩
         have B1 := Lib.hid (below_step HB.out hb)
         have K1 := Lib.hid ((hb.block (w.heap.size + 1) (by rw [HS2.out]; omega)).trans H2.out.2)
         clear hb
         have hst : (storeCells ⟨w.heap.size + 1, 0, none⟩ ZF.toList 0).run Try.prog w1 = .ok () (w1.setRow (w.heap.size + 1) ZF) := storeF K1.out Z26_len Z26_len
         have PE := Lib.hid (setRow_heap w1 (w.heap.size + 1) _ ZF U (0, 0) K1.out)))
    refine bodyPost_ret (results_face rfl _ _ (w.heap.size + 1) U Z26 Z26_len 0 0 (.slice none 0 0) rfl PE.out) rfl ?_
    exact ⟨none, 0, rfl, Kd.R_nil _ _ _ _ _, below_setRow B1.out (by omega) _⟩
  | true =>
  rw [hv, if_pos rfl] at h
  have hgap := valid_gap hv
  have EV := Lib.hid hv
  clear hv
  cases hn : inB n (-10) 10 with
  | false =>
    rw [hn, if_neg (by simp)] at h
    obtain ⟨rfl, rfl⟩ := Prod.mk.inj h
    have EN := Lib.hid hn
    clear hn h
    go_wp2_with (first
      | (go_at_call 11
         with_reducible refine (implValidC ws HX.out sp gp A c l _ (Kd.C_below HR.out HB.out) HC.out HL.out HF.out true EV.out).mono ?_
         rintro e w1 ⟨rfl, hb⟩
         have B1 := Lib.hid (below_step HB.out hb)
         have K1 := Lib.hid ((hb.block (w.heap.size + 1) (by rw [HS2.out]; omega)).trans H2.out.2)
         clear hb
         have hst : (storeCells ⟨w.heap.size + 1, 0, none⟩ ZF.toList 0).run Try.prog w1 = .ok () (w1.setRow (w.heap.size + 1) ZF) := storeF K1.out Z26_len Z26_len
         have PE := Lib.hid (setRow_heap w1 (w.heap.size + 1) _ ZF U (0, 0) K1.out))
      | (go_at_call 37; with_reducible refine (impl_in_is n (-10) 10 false _ EN.out).mono ?_; rintro e w' ⟨rfl, rfl⟩))
    refine bodyPost_ret (results_face rfl _ _ (w.heap.size + 1) U Z26 Z26_len 0 0 (.slice none 0 0) rfl PE.out) rfl ?_
    exact ⟨none, 0, rfl, Kd.R_nil _ _ _ _ _, below_setRow B1.out (by omega) _⟩
  | true =>
  rw [hn, if_pos rfl] at h
  have hten := in_ten hn
  have EN := Lib.hid hn
  clear hn
  have hw1 : IntKind.i8.wrap n = n := IntWalk.i8_in _ (by omega)
  have hw2 : IntKind.i8.wrap (gp + n) = gp + n := IntWalk.i8_in _ (by omega)
  have HF2 := Lib.hid (fit_gap HF.out (gp + n) (by omega) (by omega))
  obtain ⟨b, hb2⟩ : ∃ b, validB ws sp (gp + n) l = b := ⟨_, rfl⟩
  rw [hb2] at h
  have EB := Lib.hid hb2
  have EH := Lib.hid h
  clear hb2 h hgap hten
  cases b with
  | false =>
    obtain ⟨rfl, rfl⟩ := Prod.mk.inj ((if_neg (by simp)).symm.trans EH.out)
    clear EH
    go_wp2_with (first
      | (go_at_call 11
         with_reducible refine (implValidC ws HX.out sp gp A c l _ (Kd.C_below HR.out HB.out) HC.out HL.out HF.out true EV.out).mono ?_
         rintro e w1 ⟨rfl, hb⟩
         have B1 := Lib.hid (below_step HB.out hb)
         have S1 := Lib.hid (show w.heap.size + 2 ≤ w1.heap.size from HS2.out ▸ hb.size)
         have K0 := Lib.hid ((hb.block w.heap.size (by rw [HS2.out]; omega)).trans H2.out.1)
         have K1 := Lib.hid ((hb.block (w.heap.size + 1) (by rw [HS2.out]; omega)).trans H2.out.2)
         clear hb q0
         have q1 := loadF K0.out HX.out HM.out
         obtain ⟨x1, x2, x3⟩ := boxed w1 U ws sp gp (.slice A l.length c)
         have hst1 := store_new w1 U ws HX.out sp gp A l.length c
         obtain ⟨w2, hw2⟩ : ∃ w2, w2 = (w1.alloc (.cells ZF U)).setRow w1.heap.size (FV ws sp gp (.slice A l.length c)) := ⟨_, rfl⟩
         rw [← hw2] at hst1 x1 x2 x3
         clear hw2
         have B2 := Lib.hid (below_step B1.out x1)
         have S2 := Lib.hid x3
         have M0 := Lib.hid ((x1.block w.heap.size (by have := S1.out; omega)).trans K0.out)
         have M1 := Lib.hid ((x1.block (w.heap.size + 1) (by have := S1.out; omega)).trans K1.out)
         have M2 := Lib.hid x2
         clear x1 x2 x3
         have g27 := (blk_cell M2.out 27).trans (FV_27 ws HX.out _ _ _)
         have fz27 := blk_frozen M2.out 27
         have c28 := (blk_cell M0.out 28).trans (FV_28 ws HX.out _ _ _)
         have hne : ¬ w1.heap.size = w.heap.size := by have := S1.out; omega
         have hne' : ¬ w.heap.size = w1.heap.size := by have := S1.out; omega
         have P1 := Lib.hid (blk_far (p := ⟨w1.heap.size, 27, none⟩) M1.out (by show w.heap.size + 1 ≠ w1.heap.size; have := S1.out; omega) (.int .i8 (gp + n)))
         have P2 := Lib.hid (blk_put M2.out 27 (.int .i8 (gp + n)) (FV_set27 ws HX.out sp gp (gp + n) _)))
      | (go_at_call 37; with_reducible refine (impl_in_is n (-10) 10 true _ EN.out).mono ?_; rintro e w' ⟨rfl, rfl⟩)
      | (go_at_call 38
         with_reducible refine (cloneC A c l _ (Kd.C_below HR.out (below_set B2.out (by have := S1.out; omega))) HC.out HL.out).mono ?_
         rintro e w4 ⟨B, d, rfl, hR, hb⟩
         have B4 := Lib.hid (below_step (below_set B2.out (by have := S1.out; omega)) hb)
         have N1 := Lib.hid ((hb.block (w.heap.size + 1) (by have := S1.out; have := S2.out; simp; omega)).trans P1.out)
         have N2 := Lib.hid ((hb.block w1.heap.size (by have := S2.out; simp; omega)).trans P2.out)
         have g28 := (blk_cell N2.out 28).trans (FV_28 ws HX.out _ _ _)
         have fz28 := blk_frozen N2.out 28
         have RR := Lib.hid (Kd.R_lower (Kd.R_mono (Kd.R_bound hR) (fun k hk => show w1.heap.size < k by have h1 := hk.2.1; have h2 := S2.out; simp at h1; omega)) (show w.heap.size ≤ _ by have := S1.out; have := S2.out; simp; omega))
         have S4 := Lib.hid (show w1.heap.size < w4.heap.size from Nat.lt_of_lt_of_le S2.out (by have := hb.size; simpa using this))
         have R5 := Lib.hid (Kd.R_far RR.out (p := ⟨w1.heap.size, 28, none⟩) (fun k hk => by show k ≠ w1.heap.size; omega) (.slice B l.length d))
         have Q1 := Lib.hid (blk_far (p := ⟨w1.heap.size, 28, none⟩) N1.out (by show w.heap.size + 1 ≠ w1.heap.size; have := S1.out; omega) (.slice B l.length d))
         have Q2 := Lib.hid (blk_put N2.out 28 (.slice B l.length d) (FV_set28 ws HX.out sp (gp + n) _ _))
         clear hR hb
         have q5 := loadF Q2.out HX.out HM.out)
      | (go_at_call 11
         with_reducible refine (implValidC ws HX.out sp (gp + n) B d l _ (Kd.R_reads' R5.out).2.2 (Kd.R_reads' R5.out).2.1 HL.out HF2.out false EB.out).mono ?_
         rintro e w6 ⟨rfl, hb⟩
         have B6 := Lib.hid (below_step (below_set B4.out (by have := S1.out; omega)) hb)
         have T1 := Lib.hid ((hb.block (w.heap.size + 1) (by have := S1.out; have := S4.out; simp; omega)).trans Q1.out)
         have T2 := Lib.hid ((hb.block w1.heap.size (by have := S4.out; simp; omega)).trans Q2.out)
         have R6 := Lib.hid (Kd.R_below R5.out hb)
         clear hb
         have hst : (storeCells ⟨w.heap.size + 1, 0, none⟩ ZF.toList 0).run Try.prog w6 = .ok () (w6.setRow (w.heap.size + 1) ZF) := storeF T1.out Z26_len Z26_len
         have PE := Lib.hid (setRow_heap w6 (w.heap.size + 1) _ ZF U (0, 0) T1.out)))
    refine bodyPost_ret (results_face rfl _ _ (w.heap.size + 1) U Z26 Z26_len 0 0 (.slice none 0 0) rfl PE.out) rfl ?_
    exact ⟨none, 0, rfl, Kd.R_nil _ _ _ _ _, below_setRow B6.out (by omega) _⟩
  | true =>
    obtain ⟨rfl, rfl⟩ := Prod.mk.inj ((if_pos rfl).symm.trans EH.out)
    clear EH
    go_wp2_with (first
      | (go_at_call 11
         with_reducible refine (implValidC ws HX.out sp gp A c l _ (Kd.C_below HR.out HB.out) HC.out HL.out HF.out true EV.out).mono ?_
         rintro e w1 ⟨rfl, hb⟩
         have B1 := Lib.hid (below_step HB.out hb)
         have S1 := Lib.hid (show w.heap.size + 2 ≤ w1.heap.size from HS2.out ▸ hb.size)
         have K0 := Lib.hid ((hb.block w.heap.size (by rw [HS2.out]; omega)).trans H2.out.1)
         have K1 := Lib.hid ((hb.block (w.heap.size + 1) (by rw [HS2.out]; omega)).trans H2.out.2)
         clear hb q0
         have q1 := loadF K0.out HX.out HM.out
         obtain ⟨x1, x2, x3⟩ := boxed w1 U ws sp gp (.slice A l.length c)
         have hst1 := store_new w1 U ws HX.out sp gp A l.length c
         obtain ⟨w2, hw2⟩ : ∃ w2, w2 = (w1.alloc (.cells ZF U)).setRow w1.heap.size (FV ws sp gp (.slice A l.length c)) := ⟨_, rfl⟩
         rw [← hw2] at hst1 x1 x2 x3
         clear hw2
         have B2 := Lib.hid (below_step B1.out x1)
         have S2 := Lib.hid x3
         have M0 := Lib.hid ((x1.block w.heap.size (by have := S1.out; omega)).trans K0.out)
         have M1 := Lib.hid ((x1.block (w.heap.size + 1) (by have := S1.out; omega)).trans K1.out)
         have M2 := Lib.hid x2
         clear x1 x2 x3
         have g27 := (blk_cell M2.out 27).trans (FV_27 ws HX.out _ _ _)
         have fz27 := blk_frozen M2.out 27
         have c28 := (blk_cell M0.out 28).trans (FV_28 ws HX.out _ _ _)
         have hne : ¬ w1.heap.size = w.heap.size := by have := S1.out; omega
         have hne' : ¬ w.heap.size = w1.heap.size := by have := S1.out; omega
         have P1 := Lib.hid (blk_far (p := ⟨w1.heap.size, 27, none⟩) M1.out (by show w.heap.size + 1 ≠ w1.heap.size; have := S1.out; omega) (.int .i8 (gp + n)))
         have P2 := Lib.hid (blk_put M2.out 27 (.int .i8 (gp + n)) (FV_set27 ws HX.out sp gp (gp + n) _)))
      | (go_at_call 37; with_reducible refine (impl_in_is n (-10) 10 true _ EN.out).mono ?_; rintro e w' ⟨rfl, rfl⟩)
      | (go_at_call 38
         with_reducible refine (cloneC A c l _ (Kd.C_below HR.out (below_set B2.out (by have := S1.out; omega))) HC.out HL.out).mono ?_
         rintro e w4 ⟨B, d, rfl, hR, hb⟩
         have B4 := Lib.hid (below_step (below_set B2.out (by have := S1.out; omega)) hb)
         have N1 := Lib.hid ((hb.block (w.heap.size + 1) (by have := S1.out; have := S2.out; simp; omega)).trans P1.out)
         have N2 := Lib.hid ((hb.block w1.heap.size (by have := S2.out; simp; omega)).trans P2.out)
         have g28 := (blk_cell N2.out 28).trans (FV_28 ws HX.out _ _ _)
         have fz28 := blk_frozen N2.out 28
         have RR := Lib.hid (Kd.R_lower (Kd.R_mono (Kd.R_bound hR) (fun k hk => show w1.heap.size < k by have h1 := hk.2.1; have h2 := S2.out; simp at h1; omega)) (show w.heap.size ≤ _ by have := S1.out; have := S2.out; simp; omega))
         have S4 := Lib.hid (show w1.heap.size < w4.heap.size from Nat.lt_of_lt_of_le S2.out (by have := hb.size; simpa using this))
         have R5 := Lib.hid (Kd.R_far RR.out (p := ⟨w1.heap.size, 28, none⟩) (fun k hk => by show k ≠ w1.heap.size; omega) (.slice B l.length d))
         have Q1 := Lib.hid (blk_far (p := ⟨w1.heap.size, 28, none⟩) N1.out (by show w.heap.size + 1 ≠ w1.heap.size; have := S1.out; omega) (.slice B l.length d))
         have Q2 := Lib.hid (blk_put N2.out 28 (.slice B l.length d) (FV_set28 ws HX.out sp (gp + n) _ _))
         clear hR hb
         have q5 := loadF Q2.out HX.out HM.out)
      | (go_at_call 11
         with_reducible refine (implValidC ws HX.out sp (gp + n) B d l _ (Kd.R_reads' R5.out).2.2 (Kd.R_reads' R5.out).2.1 HL.out HF2.out true EB.out).mono ?_
         rintro e w6 ⟨rfl, hb⟩
         have B6 := Lib.hid (below_step (below_set B4.out (by have := S1.out; omega)) hb)
         have T1 := Lib.hid ((hb.block (w.heap.size + 1) (by have := S1.out; have := S4.out; simp; omega)).trans Q1.out)
         have T2 := Lib.hid ((hb.block w1.heap.size (by have := S4.out; simp; omega)).trans Q2.out)
         have R6 := Lib.hid (Kd.R_below R5.out hb)
         clear hb
         have q6 := loadF T2.out HX.out HM.out
         have hst := storeF T1.out Z26_len HX.out (sp' := sp) (gp' := gp + n) (A := B) (n := l.length) (c := d)
         have PE := Lib.hid (setRow_heap w6 (w.heap.size + 1) _ (FV ws sp (gp + n) (.slice B l.length d)) U (0, 0) T1.out)))
    refine bodyPost_ret (results_face rfl _ _ (w.heap.size + 1) U ws HX.out sp (gp + n) (.slice B l.length d) rfl PE.out) rfl ?_
    refine ⟨B, d, rfl, Kd.R_mono (Kd.R_step R6.out (fun k hk _ => setRow_other _ _ _ _ ?_)) (fun _ _ => trivial), below_setRow B6.out (by omega) _⟩
    have := S1.out
    omega
end Go.Proofs.Ytjaamcedgdhilaa.Q
