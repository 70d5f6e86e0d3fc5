-- Joined by joinmods.py out of: QhandSame QhandLawKit QhandLoosen QhandWithBase QhandPairBy QpureFaceLaw QhandLoosen2
import Derived.Test.YtimkkjkgbbfgbaaGreatDoorQFc
import Derived.Test.YtimkkjkgbbfgbaaGreatDoorQhandIsFace
import Derived.Test.YtimkkjkgbbfgbaaGreatDoorQVf
import Derived.Test.YtimkkjkgbbfgbaaGreatDoorQSt
section
/- laws.eqFace at two faces that are alike, laws.szFace, impl.SameFace, by hand. -/
namespace Go.Proofs.YtimkkjkgbbfgbaaGreatDoor.Q
open Go.RowKit Go.Proofs.YtimkkjkgbbfgbaaGreatDoorW.PrintWords Go.Proofs.YtimkkjkgbbfgbaaGreatDoorW.PrintLast Go.Proofs.YtimkkjkgbbfgbaaGreatDoorW.PrintMore
open Go.Proofs.YtimkkjkgbbfgbaaGreatDoor.Pure
set_option linter.unusedVariables false
set_option linter.unusedSimpArgs false

instance decPr : DecidableEq S33 := fun a b => decidable_of_iff (a.f0 = b.f0 ∧ a.f1 = b.f1 ∧ a.f2 = b.f2) ⟨fun h => by cases a; cases b; obtain ⟨rfl, rfl, rfl⟩ := h; rfl, fun h => by rw [h]; exact ⟨rfl, rfl, rfl⟩⟩
end Go.Proofs.YtimkkjkgbbfgbaaGreatDoor.Q
end
section
/- What the laws on faces have in common: toFace and szFace in the form that they want, and a face laid into a new block. -/
namespace Go.Proofs.YtimkkjkgbbfgbaaGreatDoor.Q
open Go.RowKit Go.Proofs.YtimkkjkgbbfgbaaGreatDoorW.PrintWords Go.Proofs.YtimkkjkgbbfgbaaGreatDoorW.PrintLast Go.Proofs.YtimkkjkgbbfgbaaGreatDoorW.PrintMore
open Go.Proofs.YtimkkjkgbbfgbaaGreatDoor.Pure
set_option linter.unusedVariables false
set_option linter.unusedSimpArgs false

/-- A new block, and a face laid into it. -/
theorem boxed (W : World) (U : TypeId) (ws : List Int) (sp gp : Int) (v : Value) :
    Below W.heap.size W ((W.alloc (.cells ZF U)).setRow W.heap.size (FV ws sp gp v)) ∧ ((W.alloc (.cells ZF U)).setRow W.heap.size (FV ws sp gp v)).heap[W.heap.size]? = some (.cells (FV ws sp gp v) U) ∧ W.heap.size < ((W.alloc (.cells ZF U)).setRow W.heap.size (FV ws sp gp v)).heap.size := by
  refine ⟨below_setRow (below_alloc (Below.refl _ _) _) (Nat.le_refl _) _, ?_, by rw [size_setRow]; simp⟩
  exact setRow_heap _ _ ZF _ _ _ (heap_alloc_new _ _)
theorem store_new (W : World) (U : TypeId) (ws : List Int) (hx : ws.length = 26) (sp gp : Int) (A : Option Addr) (n c : Nat) :
    (storeCells ⟨W.heap.size, 0, none⟩ (FV ws sp gp (.slice A n c)).toList 0).run Tryz.prog (W.alloc (.cells ZF U)) = .ok () ((W.alloc (.cells ZF U)).setRow W.heap.size (FV ws sp gp (.slice A n c))) :=
  storeF (ws := Z26) (sp := 0) (gp := 0) (v := .slice none 0 0) (heap_alloc_new _ _) Z26_len hx
theorem wf8 {x : Int} (h : (Lit.int .i8 x).wf = true) : -128 ≤ x ∧ x ≤ 127 := by
  have e1 : IntKind.i8.min = -128 := rfl
  have e2 : IntKind.i8.max = 127 := rfl
  simp only [Lit.wf] at h
  simp at h
  omega
end Go.Proofs.YtimkkjkgbbfgbaaGreatDoor.Q
end
section
/- impl.LoosenFace, spec.LoosenFace, by hand. -/
namespace Go.Proofs.YtimkkjkgbbfgbaaGreatDoor.Q
open Go.RowKit Go.Proofs.YtimkkjkgbbfgbaaGreatDoorW.PrintWords Go.Proofs.YtimkkjkgbbfgbaaGreatDoorW.PrintLast Go.Proofs.YtimkkjkgbbfgbaaGreatDoorW.PrintMore
open Go.Proofs.YtimkkjkgbbfgbaaGreatDoor.Pure
set_option linter.unusedVariables false
set_option linter.unusedSimpArgs false

abbrev Face := List Int × Int × Int × List S33
def noFace : Face := (Z26, 0, 0, [])
def loosenR (ws : List Int) (sp gp : Int) (l : List S33) (n : Int) : Face × Int :=
  if validB ws sp gp l = true then (if inB n (-10) 10 = true then (if validB ws sp (gp + n) l = true then ((ws, sp, gp + n, l), 0) else (noFace, 4)) else (noFace, 4)) else (noFace, 1)
theorem valid_gap {ws : List Int} {sp gp : Int} {l : List S33} (h : validB ws sp gp l = true) : 0 ≤ gp ∧ gp ≤ 10 := by
  unfold validB faceB at h
  simp only [Bool.and_eq_true] at h
  have := h.1.2
  unfold inB at this
  simp only [Bool.and_eq_true, decide_eq_true_iff] at this
  exact this
theorem in_ten {n : Int} (h : inB n (-10) 10 = true) : -10 ≤ n ∧ n ≤ 10 := by
  unfold inB at h
  simp only [Bool.and_eq_true, decide_eq_true_iff] at h
  exact h
theorem fit_gap {ws : List Int} {sp gp : Int} {l : List S33} (h : Fit ws sp gp l) (x : Int) (h0 : -128 ≤ x) (h1 : x ≤ 127) : Fit ws sp x l := ⟨h.ws, h.sp, ⟨h0, h1⟩, h.pr⟩
theorem results_face {fn : Func} {p u : Tmp} (h : fn.results = #[.cell p 28, .tmp u]) (tmps : Array Value) (w : World) (g : Nat) (t : TypeId) (ws : List Int) (hx : ws.length = 26) (sp gp : Int) (v : Value)
    (hp : tmps.getD p undef = .pointer (some ⟨g, 0, none⟩)) (hg : w.heap[g]? = some (.cells (FV ws sp gp v) t (0, 0))) : (results fn tmps).run Tryz.prog w = .ok (.tuple #[.agg (FV ws sp gp v), tmps.getD u undef]) w := by
  rw [results_cell_tmp h, hp]
  have := run_loadVar_row (P := Tryz.prog) w g t 28 (FV ws sp gp v) (0, 0) _ hg Tryz.underlying28 rfl (by rw [FV_size ws hx]; kernel_rfl)
  simp [asAddr, Result.andThen, this]

set_option maxHeartbeats 8000000 in
set_option maxRecDepth 100000 in
theorem implLoosenC (ws : List Int) (hx : ws.length = 26) (sp gp : Int) (A : Option Addr) (c : Nat) (l : List S33) (n : Int) (w : World) (hr : Kd.C k33 w A l.length l) (hc : l.length ≤ c) (hl : l.length ≤ 1048576) (hf : Fit ws sp gp l) (r : Face) (code : Int) (h : loosenR ws sp gp l n = (r, code)) :
    Calls Tryz.prog 22 #[.agg (FV ws sp gp (.slice A l.length c)), .int .i64 n] w fun e w' => ∃ B d, e = .returned (.tuple #[.agg (FV r.1 r.2.1 r.2.2.1 (.slice B r.2.2.2.length d)), .int .i64 code]) ∧ Kd.R k33 33 w' w.heap.size (fun _ => True) (.slice B r.2.2.2.length d) r.2.2.2 ∧ Below w.heap.size w w' := by
  go_enter Tryz.func22, Tryz.ntmps22
  obtain ⟨M, hM⟩ : ∃ M : Nat, M = 29 := ⟨_, rfl⟩
  obtain ⟨U, hU⟩ : ∃ U : TypeId, U = 28 := ⟨_, rfl⟩
  have huU := fun w => (show (underlying U).run Tryz.prog w = (underlying 28).run Tryz.prog w by rw [hU]).trans (run_underlying (P := Tryz.prog) (w := w) Tryz.underlying28)
  have hzU : ∀ w, (sizeOf U).run Tryz.prog w = .ok M w := fun w => by rw [hM, hU]; exact Tryz.sizeOf28 w
  have haU : ∀ w, (isAgg U).run Tryz.prog w = .ok true w := fun w => by rw [hU]; exact Tryz.isAgg28 w
  have hvU : ∀ w, (zeroValue U).run Tryz.prog w = .ok (.agg ZF) w := fun w => by rw [hU]; exact Tryz.zeroValue28 w
  have e2 : ∀ x, Op.load 28 x = Op.load U x := fun x => by rw [hU]
  have e3 : ∀ x y, Op.store 28 x y = Op.store U x y := fun x y => by rw [hU]
  have e4 : Op.alloc 28 = Op.alloc U := by rw [hU]
  have e5 : ∀ x, Op.build 28 x = Op.build U x := fun x => by rw [hU]
  simp only [e2, e3, e4, e5]
  clear e2 e3 e4 e5
  have hFa : ∀ g v, (FV ws sp g v).size = M := fun g v => by rw [FV_size ws hx, hM]
  have hFz : ZF.size = M := by rw [hM]; rfl
  have HM := Lib.hid hM
  have HX := Lib.hid hx
  have HR := Lib.hid hr
  have HC := Lib.hid hc
  have HL := Lib.hid hl
  have HF := Lib.hid hf
  clear hM hU hx hr hc hl hf
  have H2 := Lib.hid (two_blocks w (.cells (FV ws sp gp (.slice A l.length c)) 28) (.cells ZF U))
  have HB := Lib.hid (below_alloc (below_alloc (Below.refl w.heap.size w) (.cells (FV ws sp gp (.slice A l.length c)) 28)) (.cells ZF U))
  have HS2 := Lib.hid (show ((w.alloc (.cells (FV ws sp gp (.slice A l.length c)) 28)).alloc (.cells ZF U)).heap.size = w.heap.size + 2 by simp)
  have q0 := loadF H2.out.1 HX.out HM.out
  unfold loosenR at h
  cases hv : validB ws sp gp l with
  | false =>
    rw [hv, if_neg (by simp)] at h
    obtain ⟨rfl, rfl⟩ := Prod.mk.inj h
    have EV := Lib.hid hv
    clear hv h
    go_wp2_with (first
      | (go_at_call 17
         with_reducible refine (implValidC ws HX.out sp gp A c l _ (Kd.C_below HR.out HB.out) HC.out HL.out HF.out false EV.out).mono ?_
         rintro e w1 ⟨rfl, hb⟩
         have B1 := Lib.hid (below_step HB.out hb)
         have K1 := Lib.hid ((hb.block (w.heap.size + 1) (by rw [HS2.out]; omega)).trans H2.out.2)
         clear hb
         have hst : (storeCells ⟨w.heap.size + 1, 0, none⟩ ZF.toList 0).run Tryz.prog w1 = .ok () (w1.setRow (w.heap.size + 1) ZF) := storeF K1.out Z26_len Z26_len
         have PE := Lib.hid (setRow_heap w1 (w.heap.size + 1) _ ZF U (0, 0) K1.out)))
    refine bodyPost_ret (results_face rfl _ _ (w.heap.size + 1) U Z26 Z26_len 0 0 (.slice none 0 0) rfl PE.out) rfl ?_
    exact ⟨none, 0, rfl, Kd.R_nil _ _ _ _ _, below_setRow B1.out (by omega) _⟩
  | true =>
  rw [hv, if_pos rfl] at h
  have hgap := valid_gap hv
  have EV := Lib.hid hv
  clear hv
  cases hn : inB n (-10) 10 with
  | false =>
    rw [hn, if_neg (by simp)] at h
    obtain ⟨rfl, rfl⟩ := Prod.mk.inj h
    have EN := Lib.hid hn
    clear hn h
    go_wp2_with (first
      | (go_at_call 17
         with_reducible refine (implValidC ws HX.out sp gp A c l _ (Kd.C_below HR.out HB.out) HC.out HL.out HF.out true EV.out).mono ?_
         rintro e w1 ⟨rfl, hb⟩
         have B1 := Lib.hid (below_step HB.out hb)
         have K1 := Lib.hid ((hb.block (w.heap.size + 1) (by rw [HS2.out]; omega)).trans H2.out.2)
         clear hb
         have hst : (storeCells ⟨w.heap.size + 1, 0, none⟩ ZF.toList 0).run Tryz.prog w1 = .ok () (w1.setRow (w.heap.size + 1) ZF) := storeF K1.out Z26_len Z26_len
         have PE := Lib.hid (setRow_heap w1 (w.heap.size + 1) _ ZF U (0, 0) K1.out))
      | (go_at_call 58; with_reducible refine (impl_in_is n (-10) 10 false _ EN.out).mono ?_; rintro e w' ⟨rfl, rfl⟩))
    refine bodyPost_ret (results_face rfl _ _ (w.heap.size + 1) U Z26 Z26_len 0 0 (.slice none 0 0) rfl PE.out) rfl ?_
    exact ⟨none, 0, rfl, Kd.R_nil _ _ _ _ _, below_setRow B1.out (by omega) _⟩
  | true =>
  rw [hn, if_pos rfl] at h
  have hten := in_ten hn
  have EN := Lib.hid hn
  clear hn
  have hw1 : IntKind.i8.wrap n = n := IntWalk.i8_in _ (by omega)
  have hw2 : IntKind.i8.wrap (gp + n) = gp + n := IntWalk.i8_in _ (by omega)
  have HF2 := Lib.hid (fit_gap HF.out (gp + n) (by omega) (by omega))
  obtain ⟨b, hb2⟩ : ∃ b, validB ws sp (gp + n) l = b := ⟨_, rfl⟩
  rw [hb2] at h
  have EB := Lib.hid hb2
  have EH := Lib.hid h
  clear hb2 h hgap hten
  cases b with
  | false =>
    obtain ⟨rfl, rfl⟩ := Prod.mk.inj ((if_neg (by simp)).symm.trans EH.out)
    clear EH
    go_wp2_with (first
      | (go_at_call 17
         with_reducible refine (implValidC ws HX.out sp gp A c l _ (Kd.C_below HR.out HB.out) HC.out HL.out HF.out true EV.out).mono ?_
         rintro e w1 ⟨rfl, hb⟩
         have B1 := Lib.hid (below_step HB.out hb)
         have S1 := Lib.hid (show w.heap.size + 2 ≤ w1.heap.size from HS2.out ▸ hb.size)
         have K0 := Lib.hid ((hb.block w.heap.size (by rw [HS2.out]; omega)).trans H2.out.1)
         have K1 := Lib.hid ((hb.block (w.heap.size + 1) (by rw [HS2.out]; omega)).trans H2.out.2)
         clear hb q0
         have q1 := loadF K0.out HX.out HM.out
         obtain ⟨x1, x2, x3⟩ := boxed w1 U ws sp gp (.slice A l.length c)
         have hst1 := store_new w1 U ws HX.out sp gp A l.length c
         obtain ⟨w2, hw2⟩ : ∃ w2, w2 = (w1.alloc (.cells ZF U)).setRow w1.heap.size (FV ws sp gp (.slice A l.length c)) := ⟨_, rfl⟩
         rw [← hw2] at hst1 x1 x2 x3
         clear hw2
         have B2 := Lib.hid (below_step B1.out x1)
         have S2 := Lib.hid x3
         have M0 := Lib.hid ((x1.block w.heap.size (by have := S1.out; omega)).trans K0.out)
         have M1 := Lib.hid ((x1.block (w.heap.size + 1) (by have := S1.out; omega)).trans K1.out)
         have M2 := Lib.hid x2
         clear x1 x2 x3
         have g27 := (blk_cell M2.out 27).trans (FV_27 ws HX.out _ _ _)
         have fz27 := blk_frozen M2.out 27
         have c28 := (blk_cell M0.out 28).trans (FV_28 ws HX.out _ _ _)
         have hne : ¬ w1.heap.size = w.heap.size := by have := S1.out; omega
         have hne' : ¬ w.heap.size = w1.heap.size := by have := S1.out; omega
         have P1 := Lib.hid (blk_far (p := ⟨w1.heap.size, 27, none⟩) M1.out (by show w.heap.size + 1 ≠ w1.heap.size; have := S1.out; omega) (.int .i8 (gp + n)))
         have P2 := Lib.hid (blk_put M2.out 27 (.int .i8 (gp + n)) (FV_set27 ws HX.out sp gp (gp + n) _)))
      | (go_at_call 58; with_reducible refine (impl_in_is n (-10) 10 true _ EN.out).mono ?_; rintro e w' ⟨rfl, rfl⟩)
      | (go_at_call 39
         with_reducible refine (cloneC A c l _ (Kd.C_below HR.out (below_set B2.out (by have := S1.out; omega))) HC.out HL.out).mono ?_
         rintro e w4 ⟨B, d, rfl, hR, hb⟩
         have B4 := Lib.hid (below_step (below_set B2.out (by have := S1.out; omega)) hb)
         have N1 := Lib.hid ((hb.block (w.heap.size + 1) (by have := S1.out; have := S2.out; simp; omega)).trans P1.out)
         have N2 := Lib.hid ((hb.block w1.heap.size (by have := S2.out; simp; omega)).trans P2.out)
         have g28 := (blk_cell N2.out 28).trans (FV_28 ws HX.out _ _ _)
         have fz28 := blk_frozen N2.out 28
         have RR := Lib.hid (Kd.R_lower (Kd.R_mono (Kd.R_bound hR) (fun k hk => show w1.heap.size < k by have h1 := hk.2.1; have h2 := S2.out; simp at h1; omega)) (show w.heap.size ≤ _ by have := S1.out; have := S2.out; simp; omega))
         have S4 := Lib.hid (show w1.heap.size < w4.heap.size from Nat.lt_of_lt_of_le S2.out (by have := hb.size; simpa using this))
         have R5 := Lib.hid (Kd.R_far RR.out (p := ⟨w1.heap.size, 28, none⟩) (fun k hk => by show k ≠ w1.heap.size; omega) (.slice B l.length d))
         have Q1 := Lib.hid (blk_far (p := ⟨w1.heap.size, 28, none⟩) N1.out (by show w.heap.size + 1 ≠ w1.heap.size; have := S1.out; omega) (.slice B l.length d))
         have Q2 := Lib.hid (blk_put N2.out 28 (.slice B l.length d) (FV_set28 ws HX.out sp (gp + n) _ _))
         clear hR hb
         have q5 := loadF Q2.out HX.out HM.out)
      | (go_at_call 17
         with_reducible refine (implValidC ws HX.out sp (gp + n) B d l _ (Kd.R_reads' R5.out).2.2 (Kd.R_reads' R5.out).2.1 HL.out HF2.out false EB.out).mono ?_
         rintro e w6 ⟨rfl, hb⟩
         have B6 := Lib.hid (below_step (below_set B4.out (by have := S1.out; omega)) hb)
         have T1 := Lib.hid ((hb.block (w.heap.size + 1) (by have := S1.out; have := S4.out; simp; omega)).trans Q1.out)
         have T2 := Lib.hid ((hb.block w1.heap.size (by have := S4.out; simp; omega)).trans Q2.out)
         have R6 := Lib.hid (Kd.R_below R5.out hb)
         clear hb
         have hst : (storeCells ⟨w.heap.size + 1, 0, none⟩ ZF.toList 0).run Tryz.prog w6 = .ok () (w6.setRow (w.heap.size + 1) ZF) := storeF T1.out Z26_len Z26_len
         have PE := Lib.hid (setRow_heap w6 (w.heap.size + 1) _ ZF U (0, 0) T1.out)))
    refine bodyPost_ret (results_face rfl _ _ (w.heap.size + 1) U Z26 Z26_len 0 0 (.slice none 0 0) rfl PE.out) rfl ?_
    exact ⟨none, 0, rfl, Kd.R_nil _ _ _ _ _, below_setRow B6.out (by omega) _⟩
  | true =>
    obtain ⟨rfl, rfl⟩ := Prod.mk.inj ((if_pos rfl).symm.trans EH.out)
    clear EH
    go_wp2_with (first
      | (go_at_call 17
         with_reducible refine (implValidC ws HX.out sp gp A c l _ (Kd.C_below HR.out HB.out) HC.out HL.out HF.out true EV.out).mono ?_
         rintro e w1 ⟨rfl, hb⟩
         have B1 := Lib.hid (below_step HB.out hb)
         have S1 := Lib.hid (show w.heap.size + 2 ≤ w1.heap.size from HS2.out ▸ hb.size)
         have K0 := Lib.hid ((hb.block w.heap.size (by rw [HS2.out]; omega)).trans H2.out.1)
         have K1 := Lib.hid ((hb.block (w.heap.size + 1) (by rw [HS2.out]; omega)).trans H2.out.2)
         clear hb q0
         have q1 := loadF K0.out HX.out HM.out
         obtain ⟨x1, x2, x3⟩ := boxed w1 U ws sp gp (.slice A l.length c)
         have hst1 := store_new w1 U ws HX.out sp gp A l.length c
         obtain ⟨w2, hw2⟩ : ∃ w2, w2 = (w1.alloc (.cells ZF U)).setRow w1.heap.size (FV ws sp gp (.slice A l.length c)) := ⟨_, rfl⟩
         rw [← hw2] at hst1 x1 x2 x3
         clear hw2
         have B2 := Lib.hid (below_step B1.out x1)
         have S2 := Lib.hid x3
         have M0 := Lib.hid ((x1.block w.heap.size (by have := S1.out; omega)).trans K0.out)
         have M1 := Lib.hid ((x1.block (w.heap.size + 1) (by have := S1.out; omega)).trans K1.out)
         have M2 := Lib.hid x2
         clear x1 x2 x3
         have g27 := (blk_cell M2.out 27).trans (FV_27 ws HX.out _ _ _)
         have fz27 := blk_frozen M2.out 27
         have c28 := (blk_cell M0.out 28).trans (FV_28 ws HX.out _ _ _)
         have hne : ¬ w1.heap.size = w.heap.size := by have := S1.out; omega
         have hne' : ¬ w.heap.size = w1.heap.size := by have := S1.out; omega
         have P1 := Lib.hid (blk_far (p := ⟨w1.heap.size, 27, none⟩) M1.out (by show w.heap.size + 1 ≠ w1.heap.size; have := S1.out; omega) (.int .i8 (gp + n)))
         have P2 := Lib.hid (blk_put M2.out 27 (.int .i8 (gp + n)) (FV_set27 ws HX.out sp gp (gp + n) _)))
      | (go_at_call 58; with_reducible refine (impl_in_is n (-10) 10 true _ EN.out).mono ?_; rintro e w' ⟨rfl, rfl⟩)
      | (go_at_call 39
         with_reducible refine (cloneC A c l _ (Kd.C_below HR.out (below_set B2.out (by have := S1.out; omega))) HC.out HL.out).mono ?_
         rintro e w4 ⟨B, d, rfl, hR, hb⟩
         have B4 := Lib.hid (below_step (below_set B2.out (by have := S1.out; omega)) hb)
         have N1 := Lib.hid ((hb.block (w.heap.size + 1) (by have := S1.out; have := S2.out; simp; omega)).trans P1.out)
         have N2 := Lib.hid ((hb.block w1.heap.size (by have := S2.out; simp; omega)).trans P2.out)
         have g28 := (blk_cell N2.out 28).trans (FV_28 ws HX.out _ _ _)
         have fz28 := blk_frozen N2.out 28
         have RR := Lib.hid (Kd.R_lower (Kd.R_mono (Kd.R_bound hR) (fun k hk => show w1.heap.size < k by have h1 := hk.2.1; have h2 := S2.out; simp at h1; omega)) (show w.heap.size ≤ _ by have := S1.out; have := S2.out; simp; omega))
         have S4 := Lib.hid (show w1.heap.size < w4.heap.size from Nat.lt_of_lt_of_le S2.out (by have := hb.size; simpa using this))
         have R5 := Lib.hid (Kd.R_far RR.out (p := ⟨w1.heap.size, 28, none⟩) (fun k hk => by show k ≠ w1.heap.size; omega) (.slice B l.length d))
         have Q1 := Lib.hid (blk_far (p := ⟨w1.heap.size, 28, none⟩) N1.out (by show w.heap.size + 1 ≠ w1.heap.size; have := S1.out; omega) (.slice B l.length d))
         have Q2 := Lib.hid (blk_put N2.out 28 (.slice B l.length d) (FV_set28 ws HX.out sp (gp + n) _ _))
         clear hR hb
         have q5 := loadF Q2.out HX.out HM.out)
      | (go_at_call 17
         with_reducible refine (implValidC ws HX.out sp (gp + n) B d l _ (Kd.R_reads' R5.out).2.2 (Kd.R_reads' R5.out).2.1 HL.out HF2.out true EB.out).mono ?_
         rintro e w6 ⟨rfl, hb⟩
         have B6 := Lib.hid (below_step (below_set B4.out (by have := S1.out; omega)) hb)
         have T1 := Lib.hid ((hb.block (w.heap.size + 1) (by have := S1.out; have := S4.out; simp; omega)).trans Q1.out)
         have T2 := Lib.hid ((hb.block w1.heap.size (by have := S4.out; simp; omega)).trans Q2.out)
         have R6 := Lib.hid (Kd.R_below R5.out hb)
         clear hb
         have q6 := loadF T2.out HX.out HM.out
         have hst := storeF T1.out Z26_len HX.out (sp' := sp) (gp' := gp + n) (A := B) (n := l.length) (c := d)
         have PE := Lib.hid (setRow_heap w6 (w.heap.size + 1) _ (FV ws sp (gp + n) (.slice B l.length d)) U (0, 0) T1.out)))
    refine bodyPost_ret (results_face rfl _ _ (w.heap.size + 1) U ws HX.out sp (gp + n) (.slice B l.length d) rfl PE.out) rfl ?_
    refine ⟨B, d, rfl, Kd.R_mono (Kd.R_step R6.out (fun k hk _ => setRow_other _ _ _ _ ?_)) (fun _ _ => trivial), below_setRow B6.out (by omega) _⟩
    have := S1.out
    omega
end Go.Proofs.YtimkkjkgbbfgbaaGreatDoor.Q
end
section
/- WithPair: what it computes, in plain words; its closure. -/
namespace Go.Proofs.YtimkkjkgbbfgbaaGreatDoor.Q
open Go.RowKit Go.Proofs.YtimkkjkgbbfgbaaGreatDoorW.PrintWords Go.Proofs.YtimkkjkgbbfgbaaGreatDoorW.PrintLast Go.Proofs.YtimkkjkgbbfgbaaGreatDoorW.PrintMore
open Go.Proofs.YtimkkjkgbbfgbaaGreatDoor.Pure Go.Sort
set_option linter.unusedVariables false
set_option linter.unusedSimpArgs false

def keyB (p x : S33) : Bool := decide (x.f0 = p.f0) && decide (x.f1 = p.f1)
theorem cfP_zero (p x : S33) : (cfP x p == 0) = keyB p x := by
  have h : impl_comparePairs.f 3 x.f0 x.f1 x.f2 p.f0 p.f1 p.f2 = some (cfP x p) := (cfP_spec x p).1
  unfold impl_comparePairs.f at h
  rw [cmp8_val, Option.bind_some, cmp8_val, Option.bind_some, or2_val, Option.bind_some, Option.some.injEq] at h
  rw [← h]
  unfold keyB
  rw [Bool.eq_iff_iff]
  simp only [beq_iff_eq, Bool.and_eq_true, decide_eq_true_eq]
  repeat' split
  all_goals omega
/-- The pairs with p put among them, as the reference does it. -/
def putGo (p : S33) (done : Bool) : List S33 → List S33
  | [] => if done then [] else [p]
  | x :: t => (if (!done && aheadP p x) = true then [p] else []) ++ (if keyB p x = true then [] else [x]) ++ putGo p (done || aheadP p x) t
def putP (p : S33) (l : List S33) : List S33 := putGo p (decide (p.f2 = 0)) l
def withR (ws : List Int) (sp gp : Int) (l : List S33) (p : S33) : Face × Int :=
  if validB ws sp gp l = true then (if (letB p.f0 && letB p.f1) = true then (if faceB ws sp gp (putP p l) = true then (if ((putP p l).length : Int) ≤ 12 then ((ws, sp, gp, putP p l), 0) else (noFace, 3)) else (noFace, 4)) else (noFace, 4)) else (noFace, 1)
theorem ahead_trans {x y z : S33} (h1 : aheadP x y = true) (h2 : aheadP y z = true) : aheadP x z = true := by
  unfold aheadP at *
  simp only [Bool.or_eq_true, Bool.and_eq_true, decide_eq_true_eq] at *
  omega
theorem ahead_asym {x y : S33} (h1 : aheadP x y = true) : aheadP y x = false := by
  unfold aheadP at *
  simp only [Bool.or_eq_true, Bool.and_eq_true, decide_eq_true_eq, Bool.or_eq_false_iff, Bool.and_eq_false_iff, decide_eq_false_iff_not] at *
  omega
theorem ahead_key {x y : S33} (h1 : aheadP x y = false) (h2 : aheadP y x = false) : x.f0 = y.f0 ∧ x.f1 = y.f1 := by
  unfold aheadP at *
  simp only [Bool.or_eq_false_iff, Bool.and_eq_false_iff, decide_eq_false_iff_not] at *
  omega
theorem key_iff {p x : S33} : keyB p x = true ↔ x.f0 = p.f0 ∧ x.f1 = p.f1 := by
  unfold keyB
  simp only [Bool.and_eq_true, decide_eq_true_eq]
theorem key_ahead {p x y : S33} (h : keyB p x = true) : aheadP x y = aheadP p y ∧ aheadP y x = aheadP y p := by
  obtain ⟨h1, h2⟩ := key_iff.1 h
  unfold aheadP
  rw [h1, h2]
  exact ⟨rfl, rfl⟩
/-- What valid pairs are: each ahead of all behind it. -/
theorem pairs_strict {gp : Int} {l : List S33} (h : pairsB gp l = true) : l.Pairwise (fun x y => aheadP x y = true) := by
  have hstep : ∀ i : Nat, 0 < i → i < l.length → aheadP (rd_T33 l ((i - 1 : Nat) : Int)) (rd_T33 l (i : Nat)) = true := by
    intro i h0 hi
    unfold pairsB at h
    rw [List.all_eq_true] at h
    have := h i (List.mem_range.2 hi)
    unfold pairB at this
    simp only [Bool.and_eq_true, Bool.or_eq_true, decide_eq_true_eq] at this
    rcases this.2 with h1 | h1
    · omega
    · exact h1
  rw [List.pairwise_iff_getElem]
  have key : ∀ d i : Nat, (hi : i + d + 1 < l.length) → aheadP (l[i]'(by omega)) (l[i + d + 1]'hi) = true := by
    intro d
    induction d with
    | zero =>
      intro i hi
      have := hstep (i + 1) (by omega) hi
      rw [Nat.add_sub_cancel, rd46_get _ _ (by omega), rd46_get _ _ hi] at this
      exact this
    | succ d ih =>
      intro i hi
      have h1 := ih i (by omega)
      have h2 := hstep (i + d + 1 + 1) (by omega) (by omega)
      rw [Nat.add_sub_cancel, rd46_get _ _ (by omega), rd46_get _ _ (by omega)] at h2
      exact ahead_trans h1 h2
  intro i j hi hj hij
  have := key (j - i - 1) i (by omega)
  have e : i + (j - i - 1) + 1 = j := by omega
  simp only [e] at this
  exact this
theorem putGo_done (p : S33) : ∀ l : List S33, putGo p true l = l.filter (fun x => !keyB p x)
  | [] => rfl
  | x :: t => by
    rw [putGo, Bool.not_true, Bool.false_and, if_neg (by decide), Bool.true_or, putGo_done p t, List.filter_cons]
    by_cases h : keyB p x = true
    · rw [if_pos h]; simp [h]
    · rw [if_neg h]; simp [h]
theorem putGo_perm (p : S33) : ∀ l : List S33, (putGo p false l).Perm (l.filter (fun x => !keyB p x) ++ [p])
  | [] => List.Perm.refl _
  | x :: t => by
    rw [putGo, Bool.not_false, Bool.true_and, Bool.false_or, List.filter_cons]
    have hx : (if keyB p x = true then [] else [x]) ++ t.filter (fun x => !keyB p x) = (if (!keyB p x) = true then x :: t.filter (fun x => !keyB p x) else t.filter (fun x => !keyB p x)) := by
      by_cases h : keyB p x = true
      · rw [if_pos h]; simp [h]
      · rw [if_neg h]; simp [h]
    rw [← hx]
    by_cases ha : aheadP p x = true
    · rw [if_pos ha, ha, putGo_done]
      rw [List.append_assoc]
      exact List.perm_append_comm
    · have ha2 : aheadP p x = false := by simpa using ha
      rw [if_neg ha, ha2, List.nil_append, List.append_assoc]
      exact (putGo_perm p t).append_left _
theorem putGo_sorted (p : S33) : ∀ l : List S33, l.Pairwise (fun x y => aheadP x y = true) → (putGo p false l).Pairwise (fun x y => aheadP x y = true) ∧ ∀ z ∈ putGo p false l, z = p ∨ z ∈ l
  | [], _ => ⟨List.pairwise_singleton .., fun z hz => .inl (List.mem_singleton.1 hz)⟩
  | x :: t, h => by
    obtain ⟨h1, h2⟩ := List.pairwise_cons.1 h
    rw [putGo, Bool.not_false, Bool.true_and, Bool.false_or]
    by_cases ha : aheadP p x = true
    · have hk : keyB p x = false := by
        apply Bool.eq_false_iff.2
        intro hk
        have := (key_ahead (y := p) hk).1
        have h3 := (key_ahead (y := x) hk).2
        have h4 := ahead_asym ha
        obtain ⟨e1, e2⟩ := key_iff.1 hk
        unfold aheadP at ha
        rw [e1, e2] at ha
        simp at ha
      rw [if_pos ha, hk, ha, if_neg (by decide), putGo_done]
      have hf : t.filter (fun x => !keyB p x) = t.filter (fun x => !keyB p x) := rfl
      refine ⟨?_, fun z hz => ?_⟩
      · show (p :: x :: t.filter _).Pairwise _
        refine List.pairwise_cons.2 ⟨fun z hz => ?_, List.pairwise_cons.2 ⟨fun z hz => h1 z (List.mem_filter.1 hz).1, List.Pairwise.sublist List.filter_sublist h2⟩⟩
        rcases List.mem_cons.1 hz with rfl | hz
        · exact ha
        · exact ahead_trans ha (h1 z (List.mem_filter.1 hz).1)
      · have hz' : z ∈ p :: x :: t.filter (fun x => !keyB p x) := hz
        rcases List.mem_cons.1 hz' with rfl | hz'
        · exact .inl rfl
        · rcases List.mem_cons.1 hz' with rfl | hz'
          · exact .inr (List.mem_cons_self ..)
          · exact .inr (List.mem_cons_of_mem _ (List.mem_filter.1 hz').1)
    · have ha2 : aheadP p x = false := by simpa using ha
      obtain ⟨g1, g2⟩ := putGo_sorted p t h2
      rw [if_neg ha, ha2, List.nil_append]
      by_cases hk : keyB p x = true
      · rw [if_pos hk, List.nil_append]
        exact ⟨g1, fun z hz => (g2 z hz).imp id (List.mem_cons_of_mem _)⟩
      · rw [if_neg hk]
        have hxp : aheadP x p = true := by
          cases hn : aheadP x p with
          | true => rfl
          | false => exact absurd (key_iff.2 (ahead_key hn ha2)) hk
        refine ⟨List.pairwise_cons.2 ⟨fun z hz => ?_, g1⟩, fun z hz => ?_⟩
        · rcases g2 z hz with rfl | hz
          · exact hxp
          · exact h1 z hz
        · rcases List.mem_cons.1 hz with rfl | hz
          · exact .inr (List.mem_cons_self ..)
          · exact (g2 z hz).imp id (List.mem_cons_of_mem _)
theorem putP_sort {p : S33} {l l' : List S33} (h : l.Pairwise (fun x y => aheadP x y = true)) (hz : p.f2 ≠ 0) (hp : l'.Perm (l.filter (fun x => !keyB p x) ++ [p])) (hs : l'.Pairwise (fun x y => aheadP y x = false)) : l' = putP p l := by
  unfold putP
  rw [decide_eq_false hz]
  obtain ⟨g1, g2⟩ := putGo_sorted p l h
  have g3 := putGo_perm p l
  refine List.Perm.eq_of_pairwise (le := fun x y => aheadP y x = false) ?_ hs (g1.imp fun h => ahead_asym h) (hp.trans g3.symm)
  intro a b ha hb h1 h2
  have hk := ahead_key h2 h1
  have ha' := hp.mem_iff.1 ha
  have hb' := g3.mem_iff.1 hb
  have hab : ∀ x y : S33, x ∈ l → y ∈ l → x.f0 = y.f0 → x.f1 = y.f1 → x = y := by
    intro x y hx hy e1 e2
    obtain ⟨i, hi, rfl⟩ := List.mem_iff_getElem.1 hx
    obtain ⟨j, hj, rfl⟩ := List.mem_iff_getElem.1 hy
    have hw := List.pairwise_iff_getElem.1 h
    rcases Nat.lt_trichotomy i j with hij | hij | hij
    · have := hw i j hi hj hij
      unfold aheadP at this
      rw [e1, e2] at this
      simp at this
    · subst hij; rfl
    · have := hw j i hj hi hij
      unfold aheadP at this
      rw [e1, e2] at this
      simp at this
  have hno : ∀ x ∈ l.filter (fun x => !keyB p x), ¬ (x.f0 = p.f0 ∧ x.f1 = p.f1) := by
    intro x hx hk
    have := (List.mem_filter.1 hx).2
    rw [key_iff.2 hk] at this
    exact absurd this (by decide)
  rcases List.mem_append.1 ha' with ha' | ha' <;> rcases List.mem_append.1 hb' with hb' | hb'
  · exact hab a b (List.mem_filter.1 ha').1 (List.mem_filter.1 hb').1 hk.1 hk.2
  · rw [List.mem_singleton.1 hb'] at hk
    exact absurd hk (hno a ha')
  · rw [List.mem_singleton.1 ha'] at hk
    exact absurd ⟨hk.1.symm, hk.2.symm⟩ (hno b hb')
  · rw [List.mem_singleton.1 ha', List.mem_singleton.1 hb']
theorem putP_zero {p : S33} {l : List S33} (hz : p.f2 = 0) : putP p l = l.filter (fun x => !keyB p x) := by
  unfold putP
  rw [decide_eq_true hz, putGo_done]
theorem putGo_len (p : S33) : ∀ (l : List S33) (done : Bool), (putGo p done l).length ≤ l.length + 1
  | [], done => by unfold putGo; split <;> simp
  | x :: t, done => by
    rw [putGo]
    cases done with
    | true =>
      have := putGo_len p t true
      rw [Bool.not_true, Bool.false_and, if_neg (by decide), Bool.true_or]
      simp only [List.length_append, List.length_cons, List.length_nil]
      split <;> simp <;> omega
    | false =>
      rw [Bool.not_false, Bool.true_and, Bool.false_or]
      by_cases ha : aheadP p x = true
      · rw [if_pos ha, ha, putGo_done]
        have := List.length_filter_le (fun x => !keyB p x) t
        simp only [List.length_append, List.length_cons, List.length_nil]
        split <;> simp <;> omega
      · rw [if_neg ha, show aheadP p x = false by simpa using ha]
        have := putGo_len p t false
        simp only [List.length_append, List.length_cons, List.length_nil]
        split <;> simp <;> omega
theorem putGo_mem (p : S33) : ∀ (l : List S33) (done : Bool), ∀ z ∈ putGo p done l, z = p ∨ z ∈ l
  | [], done, z, hz => by
    unfold putGo at hz
    split at hz
    · cases hz
    · exact .inl (List.mem_singleton.1 hz)
  | x :: t, done, z, hz => by
    rw [putGo] at hz
    rcases List.mem_append.1 hz with hz | hz
    · rcases List.mem_append.1 hz with hz | hz
      · split at hz
        · exact .inl (List.mem_singleton.1 hz)
        · cases hz
      · split at hz
        · cases hz
        · rw [List.mem_singleton.1 hz]; exact .inr (List.mem_cons_self ..)
    · exact (putGo_mem p t _ z hz).imp id (List.mem_cons_of_mem _)
theorem fit_put {ws : List Int} {sp gp : Int} {l : List S33} {p : S33} (h : Fit ws sp gp l) (hp : -128 ≤ p.f2 ∧ p.f2 ≤ 127) : Fit ws sp gp (putP p l) :=
  ⟨h.ws, h.sp, h.gp, fun k hk => by
    have hm := putGo_mem p l (decide (p.f2 = 0)) (putP p l)[k] (List.getElem_mem hk)
    rw [rd46_get _ _ hk]
    rcases hm with hm | hm
    · rw [hm]; exact hp
    · obtain ⟨j, hj, e⟩ := List.mem_iff_getElem.1 hm
      have := h.pr j hj
      rw [rd46_get _ _ hj, e] at this
      exact this⟩
theorem valid_pairs {ws : List Int} {sp gp : Int} {l : List S33} (h : validB ws sp gp l = true) : pairsB gp l = true ∧ l.length ≤ 12 := by
  unfold validB faceB at h
  simp only [Bool.and_eq_true, decide_eq_true_eq] at h
  exact ⟨h.1.1.1.2, by omega⟩
set_option maxHeartbeats 1000000 in
theorem closure44 (p x : S33) (gp : Nat) (W : World) (hg : W.heap[gp]? = some (.cells #[.int .u8 p.f0, .int .u8 p.f1, .int .i8 p.f2] 33)) :
    Calls Tryz.prog 40 #[.agg #[.int .u8 x.f0, .int .u8 x.f1, .int .i8 x.f2], .pointer (some ⟨gp, 0, none⟩)] W fun e w' => e = .returned (.bool (keyB p x)) ∧ Below W.heap.size W w' := by
  have HA := Lib.hid (below_alloc (Below.refl W.heap.size W) (.cells #[.int .u8 x.f0, .int .u8 x.f1, .int .i8 x.f2] 33))
  have hg2 : (W.alloc (.cells #[.int .u8 x.f0, .int .u8 x.f1, .int .i8 x.f2] 33)).heap[gp]? = some (.cells #[.int .u8 p.f0, .int .u8 p.f1, .int .i8 p.f2] 33) := (HA.out.block gp (blk_lt hg)).trans hg
  have c0 : (W.alloc (.cells #[.int .u8 x.f0, .int .u8 x.f1, .int .i8 x.f2] 33)).cell? ⟨gp, 0, none⟩ = some (.int .u8 p.f0) := (blk_cell hg2 0).trans rfl
  have c1 : (W.alloc (.cells #[.int .u8 x.f0, .int .u8 x.f1, .int .i8 x.f2] 33)).cell? ⟨gp, 1, none⟩ = some (.int .u8 p.f1) := (blk_cell hg2 1).trans rfl
  have c2 : (W.alloc (.cells #[.int .u8 x.f0, .int .u8 x.f1, .int .i8 x.f2] 33)).cell? ⟨gp, 2, none⟩ = some (.int .i8 p.f2) := (blk_cell hg2 2).trans rfl
  have HC := Lib.hid (fun W => impl_comparePairs.calls 3 x.f0 x.f1 x.f2 p.f0 p.f1 p.f2 (cfP x p) W (cfP_spec x p).1)
  have hz := cfP_zero p x
  obtain ⟨r, hr⟩ : ∃ r, r = cfP x p := ⟨_, rfl⟩
  rw [← hr] at HC hz
  have HZ := Lib.hid hz
  clear hr hz hg hg2
  go_enter Tryz.func40, Tryz.ntmps40
  go_wp2_with (go_at_call 41; refine (HC.out _).mono ?_; rintro e w' ⟨rfl, hb⟩; have HB2 := Lib.hid (below_step HA.out hb); clear hb)
  go_ret
  exact ⟨by rw [← HZ.out]; rfl, HB2.out⟩
end Go.Proofs.YtimkkjkgbbfgbaaGreatDoor.Q
end
section
/- Face.by, spec.l01By, impl.PairBy, spec.PairBy, by hand. -/
namespace Go.Proofs.YtimkkjkgbbfgbaaGreatDoor.Q
open Go.RowKit Go.Proofs.YtimkkjkgbbfgbaaGreatDoorW.PrintWords Go.Proofs.YtimkkjkgbbfgbaaGreatDoorW.PrintLast Go.Proofs.YtimkkjkgbbfgbaaGreatDoorW.PrintMore
open Go.Proofs.YtimkkjkgbbfgbaaGreatDoor.Pure
set_option linter.unusedVariables false
set_option linter.unusedSimpArgs false

/-- By of the first pair that is of a and b. -/
def byL (a b : Int) : List S33 → Int
  | [] => 0
  | p :: t => if (p.f0 == a && p.f1 == b) = true then p.f2 else byL a b t
theorem byL_end (a b : Int) (l : List S33) (k : Nat) (h : l.length ≤ k) : byL a b (l.drop k) = 0 := by rw [List.drop_of_length_le h]; rfl
theorem byL_at (a b : Int) (l : List S33) (k : Nat) (h : k < l.length) : byL a b (l.drop k) = if ((rd_T33 l (k : Nat)).f0 == a && (rd_T33 l (k : Nat)).f1 == b) = true then (rd_T33 l (k : Nat)).f2 else byL a b (l.drop (k + 1)) := by
  rw [List.drop_eq_getElem_cons h, byL, rd46_get _ _ h]

set_option maxHeartbeats 8000000 in
set_option maxRecDepth 100000 in
theorem implByC (ws : List Int) (hx : ws.length = 26) (sp gp : Int) (A : Option Addr) (c : Nat) (l : List S33) (a b : Int) (w : World) (hr : Kd.C k33 w A l.length l) (hc : l.length ≤ c) (hl : l.length ≤ 1048576) (hf : Fit ws sp gp l) :
    Calls Tryz.prog 56 #[.agg (FV ws sp gp (.slice A l.length c)), .int .u8 a, .int .u8 b] w fun e w' => e = .returned (.int .i64 (byL a b l)) ∧ Below w.heap.size w w' := by
  go_enter Tryz.func56, Tryz.ntmps56
  have HX := Lib.hid hx
  have HR := Lib.hid hr
  have HC := Lib.hid hc
  have HL := Lib.hid hl
  have HF := Lib.hid hf
  have H1 := Lib.hid (heap_alloc_new w (.cells (FV ws sp gp (.slice A l.length c)) 28))
  have HB := Lib.hid (below_alloc (Below.refl w.heap.size w) (.cells (FV ws sp gp (.slice A l.length c)) 28))
  have c28 := (blk_cell H1.out 28).trans (FV_28 ws hx _ _ _)
  clear hr hc hl hx hf
  go_wp2
  go_loopw [12] (fun i wr => ∃ k : Nat, k ≤ l.length ∧ i = .int .i64 k ∧ RowKit.Hid (byL a b l = byL a b (l.drop k)) ∧ RowKit.Hid (Below w.heap.size w wr)) (fun i _ => l.length - (intOf i).toNat)
  case atStart => exact ⟨0, Nat.zero_le _, rfl, Lib.hid rfl, HB⟩
  case round =>
    clear c28
    obtain ⟨k, hk, rfl, HA, HW⟩ := hrel
    have hbl : (l.length : Int) ≤ 1048576 := by have := HL.out; omega
    by_cases hlt : k < l.length
    · have hlt2 : (k : Int) < (l.length : Int) := by omega
      obtain ⟨ad, rfl, hx0, hx1, hx2⟩ := at_T33 (Kd.C_below HR.out HW.out) (k : Int) (by omega) (by omega)
      simp only [Int.toNat_natCast] at hx0 hx1 hx2
      have hfit := HF.out.pr k hlt
      have hwr : IntKind.i64.wrap (rd_T33 l (k : Nat)).f2 = (rd_T33 l (k : Nat)).f2 := IntWalk.i64_in _ (by omega)
      have hat := byL_at a b l k hlt
      have HB2 := Lib.hid (below_step HW.out (below_alloc (Below.refl wr.heap.size wr) (.cells #[.int .u8 (rd_T33 l (k : Nat)).f0, .int .u8 (rd_T33 l (k : Nat)).f1, .int .i8 (rd_T33 l (k : Nat)).f2] 33)))
      cases h0 : ((rd_T33 l (k : Nat)).f0 == a) with
      | false =>
        have E := Lib.hid (HA.out.trans (hat.trans (by rw [h0, if_neg (by simp)])))
        clear hat
        go_wp2
        go_roundw
        case measure => simp only [intOf]; omega
        case rel => exact ⟨k + 1, by omega, by go_num, E, HB2⟩
      | true =>
      cases h1 : ((rd_T33 l (k : Nat)).f1 == b) with
      | false =>
        have E := Lib.hid (HA.out.trans (hat.trans (by rw [h1, if_neg (by simp)])))
        clear hat
        go_wp2
        go_roundw
        case measure => simp only [intOf]; omega
        case rel => exact ⟨k + 1, by omega, by go_num, E, HB2⟩
      | true =>
        have E := Lib.hid (HA.out.trans (hat.trans (by rw [h0, h1, if_pos (by simp)])))
        clear hat
        go_wp2
        go_ret
        exact ⟨by rw [E.out]; rfl, HB2.out⟩
    · have hlt2 : ¬ (k : Int) < (l.length : Int) := by omega
      have E := Lib.hid (HA.out.trans (byL_end a b l k (by omega)))
      go_wp2
      go_ret
      exact ⟨by rw [E.out]; rfl, HW.out⟩

set_option maxHeartbeats 8000000 in
set_option maxRecDepth 100000 in
theorem specByC (ws : List Int) (hx : ws.length = 26) (sp gp : Int) (A : Option Addr) (c : Nat) (l : List S33) (g : Nat) (a b : Int) (w : World) (hg : w.heap[g]? = some (.cells (FV ws sp gp (.slice A l.length c)) 28)) (hr : Kd.C k33 w A l.length l) (hc : l.length ≤ c) (hl : l.length ≤ 1048576) (hf : Fit ws sp gp l) :
    Calls Tryz.prog 57 #[.pointer (some ⟨g, 0, none⟩), .int .u8 a, .int .u8 b] w fun e w' => e = .returned (.int .i64 (byL a b l)) ∧ Below w.heap.size w w' := by
  go_enter Tryz.func57, Tryz.ntmps57
  have HX := Lib.hid hx
  have HR := Lib.hid hr
  have HC := Lib.hid hc
  have HL := Lib.hid hl
  have HF := Lib.hid hf
  have HG := Lib.hid hg
  have HZ := Lib.hid (blk_lt hg)
  clear hr hc hl hx hf hg
  go_wp2
  go_loopw [7] (fun i wr => ∃ k : Nat, k ≤ l.length ∧ i = .int .i64 k ∧ RowKit.Hid (byL a b l = byL a b (l.drop k)) ∧ RowKit.Hid (Below w.heap.size w wr)) (fun i _ => l.length - (intOf i).toNat)
  case atStart => exact ⟨0, Nat.zero_le _, rfl, Lib.hid rfl, Lib.hid (Below.refl _ _)⟩
  case round =>
    obtain ⟨k, hk, rfl, HA, HW⟩ := hrel
    have hbl : (l.length : Int) ≤ 1048576 := by have := HL.out; omega
    have c28 := (blk_cell ((HW.out.block g HZ.out).trans HG.out) 28).trans (FV_28 ws HX.out _ _ _)
    by_cases hlt : k < l.length
    · have hlt2 : (k : Int) < (l.length : Int) := by omega
      obtain ⟨ad, rfl, hx0, hx1, hx2⟩ := at_T33 (Kd.C_below HR.out HW.out) (k : Int) (by omega) (by omega)
      simp only [Int.toNat_natCast] at hx0 hx1 hx2
      have hfit := HF.out.pr k hlt
      have hwr : IntKind.i64.wrap (rd_T33 l (k : Nat)).f2 = (rd_T33 l (k : Nat)).f2 := IntWalk.i64_in _ (by omega)
      have hat := byL_at a b l k hlt
      cases h0 : ((rd_T33 l (k : Nat)).f0 == a) with
      | false =>
        have E := Lib.hid (HA.out.trans (hat.trans (by rw [h0, if_neg (by simp)])))
        clear hat
        go_wp2
        go_roundw
        case measure => simp only [intOf]; omega
        case rel => exact ⟨k + 1, by omega, by go_num, E, HW⟩
      | true =>
      cases h1 : ((rd_T33 l (k : Nat)).f1 == b) with
      | false =>
        have E := Lib.hid (HA.out.trans (hat.trans (by rw [h1, if_neg (by simp)])))
        clear hat
        go_wp2
        go_roundw
        case measure => simp only [intOf]; omega
        case rel => exact ⟨k + 1, by omega, by go_num, E, HW⟩
      | true =>
        have E := Lib.hid (HA.out.trans (hat.trans (by rw [h0, h1, if_pos (by simp)])))
        clear hat
        go_wp2
        go_ret
        exact ⟨by rw [E.out]; rfl, HW.out⟩
    · have hlt2 : ¬ (k : Int) < (l.length : Int) := by omega
      have E := Lib.hid (HA.out.trans (byL_end a b l k (by omega)))
      go_wp2
      go_ret
      exact ⟨by rw [E.out]; rfl, HW.out⟩

def pairByR (ws : List Int) (sp gp : Int) (l : List S33) (a b : Int) : Int × Int := if validB ws sp gp l = true then (if (letB a && letB b) = true then (byL a b l, 0) else (0, 2)) else (0, 1)

set_option maxHeartbeats 8000000 in
set_option maxRecDepth 100000 in
theorem specPairByC (ws : List Int) (hx : ws.length = 26) (sp gp : Int) (A : Option Addr) (c : Nat) (l : List S33) (a b : Int) (w : World) (hr : Kd.C k33 w A l.length l) (hc : l.length ≤ c) (hl : l.length ≤ 1048576) (hf : Fit ws sp gp l) (r1 r2 : Int) (h : pairByR ws sp gp l a b = (r1, r2)) :
    Calls Tryz.prog 21 #[.agg (FV ws sp gp (.slice A l.length c)), .int .u8 a, .int .u8 b] w fun e w' => e = .returned (.tuple #[.int .i64 r1, .int .i64 r2]) ∧ Below w.heap.size w w' := by
  have H1 := Lib.hid (heap_alloc_new w (.cells (FV ws sp gp (.slice A l.length c)) 28))
  have HB := Lib.hid (below_alloc (Below.refl w.heap.size w) (.cells (FV ws sp gp (.slice A l.length c)) 28))
  have SZ := Lib.hid (show w.heap.size < (w.alloc (.cells (FV ws sp gp (.slice A l.length c)) 28)).heap.size by simp)
  have HS := Lib.hid (l01FaceC ws hx sp gp A c l w.heap.size _ H1.out (Kd.C_below hr HB.out) hc hl hf)
  have HY := Lib.hid (fun (w1 : World) (h1 : Below (w.alloc (.cells (FV ws sp gp (.slice A l.length c)) 28)).heap.size (w.alloc (.cells (FV ws sp gp (.slice A l.length c)) 28)) w1) => specByC ws hx sp gp A c l w.heap.size a b w1 ((h1.block w.heap.size SZ.out).trans H1.out) (Kd.C_below (Kd.C_below hr HB.out) h1) hc hl hf)
  obtain ⟨v, hv⟩ : ∃ v, validB ws sp gp l = v := ⟨_, rfl⟩
  obtain ⟨la, hla⟩ : ∃ v, letB a = v := ⟨_, rfl⟩
  obtain ⟨lb, hlb⟩ : ∃ v, letB b = v := ⟨_, rfl⟩
  have EV := Lib.hid hv
  have LA := Lib.hid hla
  have LB := Lib.hid hlb
  unfold pairByR at h
  rw [hv, hla, hlb] at h
  have EH := Lib.hid h
  clear hr hc hl hf hx h hv hla hlb
  go_enter Tryz.func21, Tryz.ntmps21
  cases v with
  | false =>
    obtain ⟨rfl, rfl⟩ := Prod.mk.inj ((if_neg (by simp)).symm.trans EH.out)
    clear EH
    go_wp2_with (first
      | (go_at_call 44
         with_reducible refine HS.out.mono ?_
         rintro e w1 ⟨rfl, hb⟩
         rw [EV.out]
         have B1 := Lib.hid (below_step HB.out hb)
         clear hb))
    refine bodyPost_ret (results_tmp2 rfl _ _ _) rfl ?_
    exact ⟨rfl, B1.out⟩
  | true =>
  have EH2 := Lib.hid ((if_pos (by simp)).symm.trans EH.out)
  clear EH
  cases la with
  | false =>
    obtain ⟨rfl, rfl⟩ := Prod.mk.inj ((if_neg (by simp)).symm.trans EH2.out)
    clear EH2
    go_wp2_with (first
      | (go_at_call 44
         with_reducible refine HS.out.mono ?_
         rintro e w1 ⟨rfl, hb⟩
         rw [EV.out]
         have B1 := Lib.hid (below_step HB.out hb)
         clear hb)
      | (go_at_call 45; with_reducible refine (spec_letter_is a false _ LA.out).mono ?_; rintro e w' ⟨rfl, rfl⟩))
    refine bodyPost_ret (results_tmp2 rfl _ _ _) rfl ?_
    exact ⟨rfl, B1.out⟩
  | true =>
  cases lb with
  | false =>
    obtain ⟨rfl, rfl⟩ := Prod.mk.inj ((if_neg (by simp)).symm.trans EH2.out)
    clear EH2
    go_wp2_with (first
      | (go_at_call 44
         with_reducible refine HS.out.mono ?_
         rintro e w1 ⟨rfl, hb⟩
         rw [EV.out]
         have B1 := Lib.hid (below_step HB.out hb)
         clear hb)
      | (go_at_call 45; with_reducible refine (spec_letter_is a true _ LA.out).mono ?_; rintro e w' ⟨rfl, rfl⟩)
      | (go_at_call 45; with_reducible refine (spec_letter_is b false _ LB.out).mono ?_; rintro e w' ⟨rfl, rfl⟩))
    refine bodyPost_ret (results_tmp2 rfl _ _ _) rfl ?_
    exact ⟨rfl, B1.out⟩
  | true =>
    obtain ⟨rfl, rfl⟩ := Prod.mk.inj ((if_pos (by simp)).symm.trans EH2.out)
    clear EH2
    go_wp2_with (first
      | (go_at_call 44
         with_reducible refine HS.out.mono ?_
         rintro e w1 ⟨rfl, hb⟩
         rw [EV.out]
         have B1 := Lib.hid (below_step HB.out hb)
         have HQ := Lib.hid (HY.out w1 hb)
         clear hb)
      | (go_at_call 45; with_reducible refine (spec_letter_is a true _ LA.out).mono ?_; rintro e w' ⟨rfl, rfl⟩)
      | (go_at_call 45; with_reducible refine (spec_letter_is b true _ LB.out).mono ?_; rintro e w' ⟨rfl, rfl⟩)
      | (go_at_call 57
         with_reducible refine HQ.out.mono ?_
         rintro e w2 ⟨rfl, hb⟩
         have B2 := Lib.hid (below_step B1.out hb)
         clear hb))
    refine bodyPost_ret (results_tmp2 rfl _ _ _) rfl ?_
    exact ⟨rfl, B2.out⟩
set_option maxHeartbeats 8000000 in
set_option maxRecDepth 100000 in
theorem implPairByC (ws : List Int) (hx : ws.length = 26) (sp gp : Int) (A : Option Addr) (c : Nat) (l : List S33) (a b : Int) (w : World) (hr : Kd.C k33 w A l.length l) (hc : l.length ≤ c) (hl : l.length ≤ 1048576) (hf : Fit ws sp gp l) (r1 r2 : Int) (h : pairByR ws sp gp l a b = (r1, r2)) :
    Calls Tryz.prog 20 #[.agg (FV ws sp gp (.slice A l.length c)), .int .u8 a, .int .u8 b] w fun e w' => e = .returned (.tuple #[.int .i64 r1, .int .i64 r2]) ∧ Below w.heap.size w w' := by
  have H1 := Lib.hid (heap_alloc_new w (.cells (FV ws sp gp (.slice A l.length c)) 28))
  have HB := Lib.hid (below_alloc (Below.refl w.heap.size w) (.cells (FV ws sp gp (.slice A l.length c)) 28))
  have SZ := Lib.hid (show w.heap.size < (w.alloc (.cells (FV ws sp gp (.slice A l.length c)) 28)).heap.size by simp)
  have HS0 := Lib.hid (fun v hv => implValidC ws hx sp gp A c l _ (Kd.C_below hr HB.out) hc hl hf v hv)
  have HY := Lib.hid (fun (w1 : World) (h1 : Below (w.alloc (.cells (FV ws sp gp (.slice A l.length c)) 28)).heap.size (w.alloc (.cells (FV ws sp gp (.slice A l.length c)) 28)) w1) => implByC ws hx sp gp A c l a b w1 (Kd.C_below (Kd.C_below hr HB.out) h1) hc hl hf)
  obtain ⟨v, hv⟩ : ∃ v, validB ws sp gp l = v := ⟨_, rfl⟩
  obtain ⟨la, hla⟩ : ∃ v, letB a = v := ⟨_, rfl⟩
  obtain ⟨lb, hlb⟩ : ∃ v, letB b = v := ⟨_, rfl⟩
  have EV := Lib.hid hv
  have HS := Lib.hid (HS0.out v hv)
  have HX := Lib.hid hx
  have LA := Lib.hid hla
  have LB := Lib.hid hlb
  unfold pairByR at h
  rw [hv, hla, hlb] at h
  have EH := Lib.hid h
  clear hr hc hl hf hx h hv hla hlb
  go_enter Tryz.func20, Tryz.ntmps20
  obtain ⟨M, hM⟩ : ∃ M : Nat, M = 29 := ⟨_, rfl⟩
  obtain ⟨U, hU⟩ : ∃ U : TypeId, U = 28 := ⟨_, rfl⟩
  have hzU : ∀ w, (sizeOf U).run Tryz.prog w = .ok M w := fun w => by rw [hM, hU]; exact Tryz.sizeOf28 w
  have haU : ∀ w, (isAgg U).run Tryz.prog w = .ok true w := fun w => by rw [hU]; exact Tryz.isAgg28 w
  have e2 : ∀ x, Op.load 28 x = Op.load U x := fun x => by rw [hU]
  simp only [e2]
  clear e2
  have q0 := loadF H1.out HX.out hM
  have HM := Lib.hid hM
  clear hM hU
  cases v with
  | false =>
    obtain ⟨rfl, rfl⟩ := Prod.mk.inj ((if_neg (by simp)).symm.trans EH.out)
    clear EH
    go_wp2_with (first
      | (go_at_call 17
         with_reducible refine HS.out.mono ?_
         rintro e w1 ⟨rfl, hb⟩
         have B1 := Lib.hid (below_step HB.out hb)
         clear hb))
    refine bodyPost_ret (results_tmp2 rfl _ _ _) rfl ?_
    exact ⟨rfl, B1.out⟩
  | true =>
  have EH2 := Lib.hid ((if_pos (by simp)).symm.trans EH.out)
  clear EH
  cases la with
  | false =>
    obtain ⟨rfl, rfl⟩ := Prod.mk.inj ((if_neg (by simp)).symm.trans EH2.out)
    clear EH2
    go_wp2_with (first
      | (go_at_call 17
         with_reducible refine HS.out.mono ?_
         rintro e w1 ⟨rfl, hb⟩
         have B1 := Lib.hid (below_step HB.out hb)
         clear hb)
      | (go_at_call 37; with_reducible refine (impl_letter_is a false _ LA.out).mono ?_; rintro e w' ⟨rfl, rfl⟩))
    refine bodyPost_ret (results_tmp2 rfl _ _ _) rfl ?_
    exact ⟨rfl, B1.out⟩
  | true =>
  cases lb with
  | false =>
    obtain ⟨rfl, rfl⟩ := Prod.mk.inj ((if_neg (by simp)).symm.trans EH2.out)
    clear EH2
    go_wp2_with (first
      | (go_at_call 17
         with_reducible refine HS.out.mono ?_
         rintro e w1 ⟨rfl, hb⟩
         have B1 := Lib.hid (below_step HB.out hb)
         clear hb)
      | (go_at_call 37; with_reducible refine (impl_letter_is a true _ LA.out).mono ?_; rintro e w' ⟨rfl, rfl⟩)
      | (go_at_call 37; with_reducible refine (impl_letter_is b false _ LB.out).mono ?_; rintro e w' ⟨rfl, rfl⟩))
    refine bodyPost_ret (results_tmp2 rfl _ _ _) rfl ?_
    exact ⟨rfl, B1.out⟩
  | true =>
    obtain ⟨rfl, rfl⟩ := Prod.mk.inj ((if_pos (by simp)).symm.trans EH2.out)
    clear EH2
    go_wp2_with (first
      | (go_at_call 17
         with_reducible refine HS.out.mono ?_
         rintro e w1 ⟨rfl, hb⟩
         have B1 := Lib.hid (below_step HB.out hb)
         have HQ := Lib.hid (HY.out w1 hb)
         have q1 := loadF ((hb.block w.heap.size SZ.out).trans H1.out) HX.out HM.out
         clear hb)
      | (go_at_call 37; with_reducible refine (impl_letter_is a true _ LA.out).mono ?_; rintro e w' ⟨rfl, rfl⟩)
      | (go_at_call 37; with_reducible refine (impl_letter_is b true _ LB.out).mono ?_; rintro e w' ⟨rfl, rfl⟩)
      | (go_at_call 56
         with_reducible refine HQ.out.mono ?_
         rintro e w2 ⟨rfl, hb⟩
         have B2 := Lib.hid (below_step B1.out hb)
         clear hb))
    refine bodyPost_ret (results_tmp2 rfl _ _ _) rfl ?_
    exact ⟨rfl, B2.out⟩
end Go.Proofs.YtimkkjkgbbfgbaaGreatDoor.Q
end
section
/- Faces: what the law on faces asks, in plain words. (r2f's numbers; remap.py turns them.) -/
namespace Go.Proofs.YtimkkjkgbbfgbaaGreatDoor.Q
open Go.RowKit Go.Proofs.YtimkkjkgbbfgbaaGreatDoorW.PrintWords Go.Proofs.YtimkkjkgbbfgbaaGreatDoorW.PrintLast Go.Proofs.YtimkkjkgbbfgbaaGreatDoorW.PrintMore
open Go.Proofs.YtimkkjkgbbfgbaaGreatDoor.Pure
set_option linter.unusedVariables false
set_option linter.unusedSimpArgs false

theorem withR_ok {ws : List Int} {sp gp : Int} {l : List S33} {p : S33} {r : Face} (h : withR ws sp gp l p = (r, 0)) : r = (ws, sp, gp, putP p l) ∧ validB ws sp gp (putP p l) = true := by
  unfold withR at h
  split at h
  · split at h
    · split at h
      · split at h
        · rename_i h1 h2 h3 h4
          refine ⟨(Prod.mk.inj h).1.symm, ?_⟩
          unfold validB
          rw [h3, decide_eq_true h4]
          rfl
        · exact absurd (Prod.mk.inj h).2 (by decide)
      · exact absurd (Prod.mk.inj h).2 (by decide)
    · exact absurd (Prod.mk.inj h).2 (by decide)
  · exact absurd (Prod.mk.inj h).2 (by decide)
theorem byL_same (p : S33) : ∀ l : List S33, byL p.f0 p.f1 (putGo p false l) = p.f2
  | [] => by simp [putGo, byL]
  | x :: t => by
    rw [putGo, Bool.not_false, Bool.true_and, Bool.false_or]
    by_cases ha : aheadP p x = true
    · rw [if_pos ha]
      simp [byL]
    · have ha2 : aheadP p x = false := by simpa using ha
      rw [if_neg ha, ha2, List.nil_append]
      by_cases hk : keyB p x = true
      · rw [if_pos hk, List.nil_append]
        exact byL_same p t
      · rw [if_neg hk, List.singleton_append, byL, if_neg (fun h => hk (by unfold keyB; simpa using h))]
        exact byL_same p t
theorem byL_gone (p : S33) : ∀ l : List S33, byL p.f0 p.f1 (putGo p true l) = 0
  | [] => by simp [putGo, byL]
  | x :: t => by
    rw [putGo, Bool.not_true, Bool.false_and, if_neg (by decide), Bool.true_or, List.nil_append]
    by_cases hk : keyB p x = true
    · rw [if_pos hk, List.nil_append]
      exact byL_gone p t
    · rw [if_neg hk, List.singleton_append, byL, if_neg (fun h => hk (by unfold keyB; simpa using h))]
      exact byL_gone p t
/-- The pair that is put is told. -/
theorem byL_put (p : S33) (l : List S33) : byL p.f0 p.f1 (putP p l) = p.f2 := by
  unfold putP
  by_cases h : p.f2 = 0
  · rw [decide_eq_true h, byL_gone, h]
  · rw [decide_eq_false h, byL_same]
theorem byL_skip (p : S33) (a b : Int) (h : ¬ (a = p.f0 ∧ b = p.f1)) (done : Bool) : ∀ l : List S33, byL a b (putGo p done l) = byL a b l := by
  intro l
  have hp : (p.f0 == a && p.f1 == b) = false := by
    rw [Bool.eq_false_iff]
    intro hc
    simp only [Bool.and_eq_true, beq_iff_eq] at hc
    exact h ⟨hc.1.symm, hc.2.symm⟩
  induction l generalizing done with
  | nil =>
    rw [putGo]
    cases done
    · rw [if_neg (by decide)]
      simp [byL, hp]
    · rw [if_pos rfl]
  | cons x t ih =>
    rw [putGo]
    have hrest : byL a b ((if keyB p x = true then [] else [x]) ++ putGo p (done || aheadP p x) t) = byL a b (x :: t) := by
      by_cases hk : keyB p x = true
      · rw [if_pos hk, List.nil_append, ih, byL]
        rw [if_neg (fun hc => by
          unfold keyB at hk
          simp only [Bool.and_eq_true, decide_eq_true_eq, beq_iff_eq] at hk hc
          exact h ⟨hc.1.symm.trans hk.1, hc.2.symm.trans hk.2⟩)]
      · rw [if_neg hk, List.singleton_append, byL, byL, ih]
    by_cases ha : (!done && aheadP p x) = true
    · rw [if_pos ha, List.append_assoc, List.singleton_append, byL, if_neg (by rw [hp]; decide)]
      exact hrest
    · rw [if_neg ha, List.append_assoc, List.nil_append]
      exact hrest
/-- No other pair has changed. -/
theorem byL_other (p : S33) (l : List S33) (a b : Int) (h : ¬ (a = p.f0 ∧ b = p.f1)) : byL a b (putP p l) = byL a b l := byL_skip p a b h _ l
def fineP (gp : Int) (x : S33) : Bool := letB x.f0 && letB x.f1 && inB x.f2 (-10) 10 && !decide (x.f2 = 0) && !decide (IntKind.i8.wrap (gp + x.f2) < 0)
theorem pairsB_of {gp : Int} {l : List S33} (hs : l.Pairwise (fun x y => aheadP x y = true)) (hf : ∀ x ∈ l, fineP gp x = true) : pairsB gp l = true := by
  unfold pairsB
  rw [List.all_eq_true]
  intro i hi
  have hi2 := List.mem_range.1 hi
  have h1 := hf _ (List.getElem_mem hi2)
  unfold fineP at h1
  unfold pairB
  rw [rd46_get _ _ hi2, h1, Bool.true_and]
  by_cases h0 : i = 0
  · rw [decide_eq_true h0]; rfl
  · rw [decide_eq_false h0, Bool.false_or, rd46_get _ _ (by omega)]
    exact List.pairwise_iff_getElem.1 hs (i - 1) i (by omega) hi2 (by omega)
theorem pairsB_fine {gp : Int} {l : List S33} (h : pairsB gp l = true) : ∀ x ∈ l, fineP gp x = true := by
  intro x hx
  obtain ⟨i, hi, rfl⟩ := List.getElem_of_mem hx
  unfold pairsB at h
  rw [List.all_eq_true] at h
  have := h i (List.mem_range.2 hi)
  unfold pairB at this
  rw [rd46_get _ _ hi] at this
  unfold fineP
  simp only [Bool.and_eq_true] at this ⊢
  exact this.1
theorem valid_parts {ws : List Int} {sp gp : Int} {l : List S33} (h : validB ws sp gp l = true) : wideB ws = true ∧ pairsB gp l = true ∧ inB sp 1 40 = true ∧ inB gp 0 10 = true ∧ l.length ≤ 12 := by
  unfold validB faceB at h
  simp only [Bool.and_eq_true, decide_eq_true_eq] at h
  exact ⟨h.1.1.1.1, h.1.1.1.2, h.1.1.2, h.1.2, by omega⟩
/-- A pair that fits the gap is put. -/
theorem face_put {ws : List Int} {sp gp : Int} {l : List S33} {p : S33} (hv : validB ws sp gp l = true) (ha : letB p.f0 = true) (hb : letB p.f1 = true) (hp : -10 ≤ p.f2 ∧ p.f2 ≤ 10) (hg : p.f2 = 0 ∨ 0 ≤ gp + p.f2) : faceB ws sp gp (putP p l) = true := by
  obtain ⟨h1, h2, h3, h4, h5⟩ := valid_parts hv
  have hg10 := valid_gap hv
  have hs := pairs_strict h2
  have hf := pairsB_fine h2
  unfold faceB
  rw [h1, h3, h4]
  have : pairsB gp (putP p l) = true := by
    by_cases h0 : p.f2 = 0
    · rw [putP_zero h0]
      exact pairsB_of (hs.filter _) (fun x hx => hf x (List.mem_filter.1 hx).1)
    · unfold putP
      rw [decide_eq_false h0]
      obtain ⟨q1, q2⟩ := putGo_sorted p l hs
      refine pairsB_of q1 (fun x hx => ?_)
      rcases q2 x hx with rfl | hx
      · have hw : IntKind.i8.wrap (gp + x.f2) = gp + x.f2 := IntWalk.i8_in _ (by omega)
        unfold fineP inB
        rw [ha, hb, hw, decide_eq_false h0, decide_eq_true hp.1, decide_eq_true hp.2, decide_eq_false (by omega)]
        rfl
      · exact hf x hx
  rw [this]
  rfl
/-- The codes of WithPair at a valid face. -/
theorem withR_codes {ws : List Int} {sp gp : Int} {l : List S33} {p : S33} (hv : validB ws sp gp l = true) (ha : letB p.f0 = true) (hb : letB p.f1 = true) (hp : -10 ≤ p.f2 ∧ p.f2 ≤ 10) :
    (withR ws sp gp l p).2 = 0 ∨ (withR ws sp gp l p).2 = 3 ∨ (withR ws sp gp l p).2 = 4 ∧ gp + p.f2 < 0 := by
  unfold withR
  rw [if_pos hv, if_pos (by rw [ha, hb]; rfl)]
  by_cases h1 : faceB ws sp gp (putP p l) = true
  · rw [if_pos h1]
    by_cases h2 : ((putP p l).length : Int) ≤ 12
    · rw [if_pos h2]; exact Or.inl rfl
    · rw [if_neg h2]; exact Or.inr (Or.inl rfl)
  · rw [if_neg h1]
    refine Or.inr (Or.inr ⟨rfl, ?_⟩)
    have hg10 := valid_gap hv
    by_cases h3 : p.f2 = 0 ∨ 0 ≤ gp + p.f2
    · exact absurd (face_put hv ha hb hp h3) h1
    · omega
/-- A face that is loosened, and tightened by as much, is as it was. -/
theorem loosen_back {ws : List Int} {sp gp : Int} {l : List S33} {n : Int} {r : Face} (hv : validB ws sp gp l = true) (h : loosenR ws sp gp l n = (r, 0)) : r = (ws, sp, gp + n, l) ∧ loosenR ws sp (gp + n) l (-n) = ((ws, sp, gp, l), 0) := by
  unfold loosenR at h
  rw [if_pos hv] at h
  split at h
  · rename_i h1
    split at h
    · rename_i h2
      refine ⟨(Prod.mk.inj h).1.symm, ?_⟩
      unfold loosenR
      have h3 := in_ten h1
      rw [if_pos h2, if_pos (by unfold inB; rw [decide_eq_true (by omega), decide_eq_true (by omega)]; rfl), show gp + n + -n = gp by omega, if_pos hv]
    · exact absurd (Prod.mk.inj h).2 (by decide)
  · exact absurd (Prod.mk.inj h).2 (by decide)
theorem loosen_codes {ws : List Int} {sp gp : Int} {l : List S33} {n : Int} (hv : validB ws sp gp l = true) : (loosenR ws sp gp l n).2 = 0 ∨ (loosenR ws sp gp l n).2 = 4 := by
  unfold loosenR
  rw [if_pos hv]
  split
  · split
    · exact Or.inl rfl
    · exact Or.inr rfl
  · exact Or.inr rfl
end Go.Proofs.YtimkkjkgbbfgbaaGreatDoor.Q
end
section
/- spec.LoosenFace, by hand. -/
namespace Go.Proofs.YtimkkjkgbbfgbaaGreatDoor.Q
open Go.RowKit Go.Proofs.YtimkkjkgbbfgbaaGreatDoorW.PrintWords Go.Proofs.YtimkkjkgbbfgbaaGreatDoorW.PrintLast Go.Proofs.YtimkkjkgbbfgbaaGreatDoorW.PrintMore
open Go.Proofs.YtimkkjkgbbfgbaaGreatDoor.Pure
set_option linter.unusedVariables false
set_option linter.unusedSimpArgs false

set_option maxHeartbeats 8000000 in
set_option maxRecDepth 100000 in
theorem specLoosenC (ws : List Int) (hx : ws.length = 26) (sp gp : Int) (A : Option Addr) (c : Nat) (l : List S33) (n : Int) (w : World) (hr : Kd.C k33 w A l.length l) (hc : l.length ≤ c) (hl : l.length ≤ 1048576) (hf : Fit ws sp gp l) (r : Face) (code : Int) (h : loosenR ws sp gp l n = (r, code)) :
    Calls Tryz.prog 23 #[.agg (FV ws sp gp (.slice A l.length c)), .int .i64 n] w fun e w' => ∃ B d, e = .returned (.tuple #[.agg (FV r.1 r.2.1 r.2.2.1 (.slice B r.2.2.2.length d)), .int .i64 code]) ∧ Kd.R k33 33 w' w.heap.size (fun _ => True) (.slice B r.2.2.2.length d) r.2.2.2 ∧ Below w.heap.size w w' := by
  go_enter Tryz.func23, Tryz.ntmps23
  obtain ⟨M, hM⟩ : ∃ M : Nat, M = 29 := ⟨_, rfl⟩
  obtain ⟨U, hU⟩ : ∃ U : TypeId, U = 28 := ⟨_, rfl⟩
  have huU := fun w => (show (underlying U).run Tryz.prog w = (underlying 28).run Tryz.prog w by rw [hU]).trans (run_underlying (P := Tryz.prog) (w := w) Tryz.underlying28)
  have hzU : ∀ w, (sizeOf U).run Tryz.prog w = .ok M w := fun w => by rw [hM, hU]; exact Tryz.sizeOf28 w
  have haU : ∀ w, (isAgg U).run Tryz.prog w = .ok true w := fun w => by rw [hU]; exact Tryz.isAgg28 w
  have hvU : ∀ w, (zeroValue U).run Tryz.prog w = .ok (.agg ZF) w := fun w => by rw [hU]; exact Tryz.zeroValue28 w
  have e2 : ∀ x, Op.load 28 x = Op.load U x := fun x => by rw [hU]
  have e3 : ∀ x y, Op.store 28 x y = Op.store U x y := fun x y => by rw [hU]
  have e4 : Op.alloc 28 = Op.alloc U := by rw [hU]
  have e5 : ∀ x, Op.build 28 x = Op.build U x := fun x => by rw [hU]
  simp only [e2, e3, e4, e5]
  clear e2 e3 e4 e5
  have hFa : ∀ g v, (FV ws sp g v).size = M := fun g v => by rw [FV_size ws hx, hM]
  have hFz : ZF.size = M := by rw [hM]; rfl
  have HM := Lib.hid hM
  have HX := Lib.hid hx
  have HR := Lib.hid hr
  have HC := Lib.hid hc
  have HL := Lib.hid hl
  have HF := Lib.hid hf
  clear hM hU hx hr hc hl hf
  have H2 := Lib.hid (two_blocks w (.cells (FV ws sp gp (.slice A l.length c)) 28) (.cells ZF U))
  have HB := Lib.hid (below_alloc (below_alloc (Below.refl w.heap.size w) (.cells (FV ws sp gp (.slice A l.length c)) 28)) (.cells ZF U))
  have HS2 := Lib.hid (show ((w.alloc (.cells (FV ws sp gp (.slice A l.length c)) 28)).alloc (.cells ZF U)).heap.size = w.heap.size + 2 by simp)
  have q0 := loadF H2.out.1 HX.out HM.out
  unfold loosenR at h
  cases hv : validB ws sp gp l with
  | false =>
    rw [hv, if_neg (by simp)] at h
    obtain ⟨rfl, rfl⟩ := Prod.mk.inj h
    have EV := Lib.hid hv
    clear hv h
    go_wp2_with (first
      | (go_at_call 44
         with_reducible refine (l01FaceC ws HX.out sp gp A c l w.heap.size _ H2.out.1 (Kd.C_below HR.out HB.out) HC.out HL.out HF.out).mono ?_
         rintro e w1 ⟨rfl, hb⟩
         rw [EV.out]
         have B1 := Lib.hid (below_step HB.out hb)
         have S1 := Lib.hid (show w.heap.size + 2 ≤ w1.heap.size from HS2.out ▸ hb.size)
         have K0 := Lib.hid ((hb.block w.heap.size (by rw [HS2.out]; omega)).trans H2.out.1)
         have K1 := Lib.hid ((hb.block (w.heap.size + 1) (by rw [HS2.out]; omega)).trans H2.out.2)
         clear hb q0
         have hst : (storeCells ⟨w.heap.size + 1, 0, none⟩ ZF.toList 0).run Tryz.prog w1 = .ok () (w1.setRow (w.heap.size + 1) ZF) := storeF K1.out Z26_len Z26_len
         have PE := Lib.hid (setRow_heap w1 (w.heap.size + 1) _ ZF U (0, 0) K1.out)))
    refine bodyPost_ret (results_face rfl _ _ (w.heap.size + 1) U Z26 Z26_len 0 0 (.slice none 0 0) rfl PE.out) rfl ?_
    exact ⟨none, 0, rfl, Kd.R_nil _ _ _ _ _, below_setRow B1.out (by omega) _⟩
  | true =>
  rw [hv, if_pos rfl] at h
  have hgap := valid_gap hv
  have EV := Lib.hid hv
  clear hv
  cases hn : inB n (-10) 10 with
  | false =>
    rw [hn, if_neg (by simp)] at h
    obtain ⟨rfl, rfl⟩ := Prod.mk.inj h
    have EN := Lib.hid hn
    clear hn h
    go_wp2_with (first
      | (go_at_call 44
         with_reducible refine (l01FaceC ws HX.out sp gp A c l w.heap.size _ H2.out.1 (Kd.C_below HR.out HB.out) HC.out HL.out HF.out).mono ?_
         rintro e w1 ⟨rfl, hb⟩
         rw [EV.out]
         have B1 := Lib.hid (below_step HB.out hb)
         have S1 := Lib.hid (show w.heap.size + 2 ≤ w1.heap.size from HS2.out ▸ hb.size)
         have K0 := Lib.hid ((hb.block w.heap.size (by rw [HS2.out]; omega)).trans H2.out.1)
         have K1 := Lib.hid ((hb.block (w.heap.size + 1) (by rw [HS2.out]; omega)).trans H2.out.2)
         clear hb q0
         have hst : (storeCells ⟨w.heap.size + 1, 0, none⟩ ZF.toList 0).run Tryz.prog w1 = .ok () (w1.setRow (w.heap.size + 1) ZF) := storeF K1.out Z26_len Z26_len
         have PE := Lib.hid (setRow_heap w1 (w.heap.size + 1) _ ZF U (0, 0) K1.out))
      | (go_at_call 59; with_reducible refine (spec_in_is n (-10) 10 false _ EN.out).mono ?_; rintro e w' ⟨rfl, rfl⟩))
    refine bodyPost_ret (results_face rfl _ _ (w.heap.size + 1) U Z26 Z26_len 0 0 (.slice none 0 0) rfl PE.out) rfl ?_
    exact ⟨none, 0, rfl, Kd.R_nil _ _ _ _ _, below_setRow B1.out (by omega) _⟩
  | true =>
  rw [hn, if_pos rfl] at h
  have hten := in_ten hn
  have EN := Lib.hid hn
  clear hn
  have hw1 : IntKind.i8.wrap n = n := IntWalk.i8_in _ (by omega)
  have hw2 : IntKind.i8.wrap (gp + n) = gp + n := IntWalk.i8_in _ (by omega)
  have HF2 := Lib.hid (fit_gap HF.out (gp + n) (by omega) (by omega))
  obtain ⟨b, hb2⟩ : ∃ b, validB ws sp (gp + n) l = b := ⟨_, rfl⟩
  rw [hb2] at h
  have EB := Lib.hid hb2
  have EH := Lib.hid h
  clear hb2 h hgap hten
  cases b with
  | false =>
    obtain ⟨rfl, rfl⟩ := Prod.mk.inj ((if_neg (by simp)).symm.trans EH.out)
    clear EH
    go_wp2_with (first
      | (go_at_call 44
         with_reducible refine (l01FaceC ws HX.out sp gp A c l w.heap.size _ H2.out.1 (Kd.C_below HR.out HB.out) HC.out HL.out HF.out).mono ?_
         rintro e w1 ⟨rfl, hb⟩
         rw [EV.out]
         have B1 := Lib.hid (below_step HB.out hb)
         have S1 := Lib.hid (show w.heap.size + 2 ≤ w1.heap.size from HS2.out ▸ hb.size)
         have K0 := Lib.hid ((hb.block w.heap.size (by rw [HS2.out]; omega)).trans H2.out.1)
         have K1 := Lib.hid ((hb.block (w.heap.size + 1) (by rw [HS2.out]; omega)).trans H2.out.2)
         clear hb q0
         have g27 := (blk_cell K0.out 27).trans (FV_27 ws HX.out _ _ _)
         have fz27 := blk_frozen K0.out 27
         have P1 := Lib.hid (blk_far (p := ⟨w.heap.size, 27, none⟩) K1.out (by show w.heap.size + 1 ≠ w.heap.size; omega) (.int .i8 (gp + n)))
         have P0 := Lib.hid (blk_put K0.out 27 (.int .i8 (gp + n)) (FV_set27 ws HX.out sp gp (gp + n) _))
         have B3 := Lib.hid (show Below w.heap.size w (w1.setCell ⟨w.heap.size, 27, none⟩ (.int .i8 (gp + n))) from below_set B1.out (by omega))
         have S3 := Lib.hid (show w.heap.size + 2 ≤ (w1.setCell ⟨w.heap.size, 27, none⟩ (.int .i8 (gp + n))).heap.size by simp; exact S1.out))
      | (go_at_call 59; with_reducible refine (spec_in_is n (-10) 10 true _ EN.out).mono ?_; rintro e w' ⟨rfl, rfl⟩)
      | ((with_reducible refine gate_dst (N := 19) rfl ?_); refine Kd.R_lit k33 _ 33 ?hg (N := 19) ?hd (xs := ([] : List S33)) (inner := []) (ok := fun _ => True) (okp := fun _ => True) ?hr ?hp (fun _ hk => hk) trivial (Below.refl _ _) (Nat.le_refl _) (by simp) ?_; (case hd => rfl); (case hg => rfl); (case hr => first | (go_simp; done) | (go_simp; rfl)); (case hp => exact (Reps.none _ _)); intro v0 w7 ho8 hb hg_ hnew_; clear hg_ hnew_; have HO := Lib.hid ho8; have HB7 := Lib.hid hb; have HC7 := Lib.hid (Kd.C_below HR.out (below_step B3.out hb)); have c28 := (blk_cell ((hb.block w.heap.size (by have := S3.out; omega)).trans P0.out) 28).trans (FV_28 ws HX.out _ _ _); clear ho8 hb)
      | ((with_reducible refine gate_builtin (b := .append) (xs := #[.tmp 19, .tmp 21]) rfl ?_); at_builtin; refine Kd.R_append_rows k33 (w0 := (w1.setCell ⟨w.heap.size, 27, none⟩ (.int .i8 (gp + n)))) (w1.setCell ⟨w.heap.size, 27, none⟩ (.int .i8 (gp + n))).heap.size rfl (.tmp 19) (.tmp 21) 26 33 (.agg #[.int .u8 0, .int .u8 0, .int .i8 0]) 3 rfl Tryz.underlying26 info33' rfl (by decide) (by omega) v0 [] l _ _ _ (fun _ => True) (fun _ => False) rfl rfl ?aO ?aR (fun _ _ h => h) (fun _ h => h.elim) ?aF ?aB ?aS ?aL ?_; (case aO => exact HO.out); (case aR => exact HC7.out); (case aF => exact (fun _ _ => trivial)); (case aB => exact HB7.out); (case aS => exact HB7.out.size); (case aL => have := HL.out; simp; omega); intro v2 w8 ho hb hg hat
         have B8 := Lib.hid (below_step B3.out hb)
         have N0 := Lib.hid ((hb.block w.heap.size (by have := S3.out; omega)).trans P0.out)
         have N1 := Lib.hid ((hb.block (w.heap.size + 1) (by have := S3.out; omega)).trans P1.out)
         have g28 := (blk_cell N0.out 28).trans (FV_28 ws HX.out _ _ _)
         have fz28 := blk_frozen N0.out 28
         have ho2 : Kd.R k33 33 w8 (w1.setCell ⟨w.heap.size, 27, none⟩ (.int .i8 (gp + n))).heap.size (fun _ => True) v2 l := ho
         obtain ⟨B, d, rfl⟩ := Kd.R_slice ho2
         have RR := Lib.hid (Kd.R_lower (Kd.R_mono (Kd.R_bound ho2) (fun k hk => show w.heap.size + 1 < k by have h1 := hk.2.1; have h2 := S3.out; omega)) (show w.heap.size ≤ _ by have := S3.out; omega))
         have S8 := Lib.hid (show w.heap.size + 2 ≤ w8.heap.size from Nat.le_trans S3.out hb.size)
         have R5 := Lib.hid (Kd.R_far RR.out (p := ⟨w.heap.size, 28, none⟩) (fun k hk => by show k ≠ w.heap.size; omega) (.slice B l.length d))
         have Q1 := Lib.hid (blk_far (p := ⟨w.heap.size, 28, none⟩) N1.out (by show w.heap.size + 1 ≠ w.heap.size; omega) (.slice B l.length d))
         have Q0 := Lib.hid (blk_put N0.out 28 (.slice B l.length d) (FV_set28 ws HX.out sp (gp + n) _ _))
         clear ho ho2 hb hg hat c28)
      | (go_at_call 44
         with_reducible refine (l01FaceC ws HX.out sp (gp + n) B d l w.heap.size _ Q0.out (Kd.R_reads' R5.out).2.2 (Kd.R_reads' R5.out).2.1 HL.out HF2.out).mono ?_
         rintro e w6 ⟨rfl, hb⟩
         rw [EB.out]
         have B6 := Lib.hid (below_step (below_set B8.out (by omega)) hb)
         have T0 := Lib.hid ((hb.block w.heap.size (by have := S8.out; simp; omega)).trans Q0.out)
         have T1 := Lib.hid ((hb.block (w.heap.size + 1) (by have := S8.out; simp; omega)).trans Q1.out)
         have R6 := Lib.hid (Kd.R_below R5.out hb)
         clear hb
         have hst : (storeCells ⟨w.heap.size + 1, 0, none⟩ ZF.toList 0).run Tryz.prog w6 = .ok () (w6.setRow (w.heap.size + 1) ZF) := storeF T1.out Z26_len Z26_len
         have PE := Lib.hid (setRow_heap w6 (w.heap.size + 1) _ ZF U (0, 0) T1.out)))
    refine bodyPost_ret (results_face rfl _ _ (w.heap.size + 1) U Z26 Z26_len 0 0 (.slice none 0 0) rfl PE.out) rfl ?_
    exact ⟨none, 0, rfl, Kd.R_nil _ _ _ _ _, below_setRow B6.out (by omega) _⟩
  | true =>
    obtain ⟨rfl, rfl⟩ := Prod.mk.inj ((if_pos rfl).symm.trans EH.out)
    clear EH
    go_wp2_with (first
      | (go_at_call 44
         with_reducible refine (l01FaceC ws HX.out sp gp A c l w.heap.size _ H2.out.1 (Kd.C_below HR.out HB.out) HC.out HL.out HF.out).mono ?_
         rintro e w1 ⟨rfl, hb⟩
         rw [EV.out]
         have B1 := Lib.hid (below_step HB.out hb)
         have S1 := Lib.hid (show w.heap.size + 2 ≤ w1.heap.size from HS2.out ▸ hb.size)
         have K0 := Lib.hid ((hb.block w.heap.size (by rw [HS2.out]; omega)).trans H2.out.1)
         have K1 := Lib.hid ((hb.block (w.heap.size + 1) (by rw [HS2.out]; omega)).trans H2.out.2)
         clear hb q0
         have g27 := (blk_cell K0.out 27).trans (FV_27 ws HX.out _ _ _)
         have fz27 := blk_frozen K0.out 27
         have P1 := Lib.hid (blk_far (p := ⟨w.heap.size, 27, none⟩) K1.out (by show w.heap.size + 1 ≠ w.heap.size; omega) (.int .i8 (gp + n)))
         have P0 := Lib.hid (blk_put K0.out 27 (.int .i8 (gp + n)) (FV_set27 ws HX.out sp gp (gp + n) _))
         have B3 := Lib.hid (show Below w.heap.size w (w1.setCell ⟨w.heap.size, 27, none⟩ (.int .i8 (gp + n))) from below_set B1.out (by omega))
         have S3 := Lib.hid (show w.heap.size + 2 ≤ (w1.setCell ⟨w.heap.size, 27, none⟩ (.int .i8 (gp + n))).heap.size by simp; exact S1.out))
      | (go_at_call 59; with_reducible refine (spec_in_is n (-10) 10 true _ EN.out).mono ?_; rintro e w' ⟨rfl, rfl⟩)
      | ((with_reducible refine gate_dst (N := 19) rfl ?_); refine Kd.R_lit k33 _ 33 ?hg (N := 19) ?hd (xs := ([] : List S33)) (inner := []) (ok := fun _ => True) (okp := fun _ => True) ?hr ?hp (fun _ hk => hk) trivial (Below.refl _ _) (Nat.le_refl _) (by simp) ?_; (case hd => rfl); (case hg => rfl); (case hr => first | (go_simp; done) | (go_simp; rfl)); (case hp => exact (Reps.none _ _)); intro v0 w7 ho8 hb hg_ hnew_; clear hg_ hnew_; have HO := Lib.hid ho8; have HB7 := Lib.hid hb; have HC7 := Lib.hid (Kd.C_below HR.out (below_step B3.out hb)); have c28 := (blk_cell ((hb.block w.heap.size (by have := S3.out; omega)).trans P0.out) 28).trans (FV_28 ws HX.out _ _ _); clear ho8 hb)
      | ((with_reducible refine gate_builtin (b := .append) (xs := #[.tmp 19, .tmp 21]) rfl ?_); at_builtin; refine Kd.R_append_rows k33 (w0 := (w1.setCell ⟨w.heap.size, 27, none⟩ (.int .i8 (gp + n)))) (w1.setCell ⟨w.heap.size, 27, none⟩ (.int .i8 (gp + n))).heap.size rfl (.tmp 19) (.tmp 21) 26 33 (.agg #[.int .u8 0, .int .u8 0, .int .i8 0]) 3 rfl Tryz.underlying26 info33' rfl (by decide) (by omega) v0 [] l _ _ _ (fun _ => True) (fun _ => False) rfl rfl ?aO ?aR (fun _ _ h => h) (fun _ h => h.elim) ?aF ?aB ?aS ?aL ?_; (case aO => exact HO.out); (case aR => exact HC7.out); (case aF => exact (fun _ _ => trivial)); (case aB => exact HB7.out); (case aS => exact HB7.out.size); (case aL => have := HL.out; simp; omega); intro v2 w8 ho hb hg hat
         have B8 := Lib.hid (below_step B3.out hb)
         have N0 := Lib.hid ((hb.block w.heap.size (by have := S3.out; omega)).trans P0.out)
         have N1 := Lib.hid ((hb.block (w.heap.size + 1) (by have := S3.out; omega)).trans P1.out)
         have g28 := (blk_cell N0.out 28).trans (FV_28 ws HX.out _ _ _)
         have fz28 := blk_frozen N0.out 28
         have ho2 : Kd.R k33 33 w8 (w1.setCell ⟨w.heap.size, 27, none⟩ (.int .i8 (gp + n))).heap.size (fun _ => True) v2 l := ho
         obtain ⟨B, d, rfl⟩ := Kd.R_slice ho2
         have RR := Lib.hid (Kd.R_lower (Kd.R_mono (Kd.R_bound ho2) (fun k hk => show w.heap.size + 1 < k by have h1 := hk.2.1; have h2 := S3.out; omega)) (show w.heap.size ≤ _ by have := S3.out; omega))
         have S8 := Lib.hid (show w.heap.size + 2 ≤ w8.heap.size from Nat.le_trans S3.out hb.size)
         have R5 := Lib.hid (Kd.R_far RR.out (p := ⟨w.heap.size, 28, none⟩) (fun k hk => by show k ≠ w.heap.size; omega) (.slice B l.length d))
         have Q1 := Lib.hid (blk_far (p := ⟨w.heap.size, 28, none⟩) N1.out (by show w.heap.size + 1 ≠ w.heap.size; omega) (.slice B l.length d))
         have Q0 := Lib.hid (blk_put N0.out 28 (.slice B l.length d) (FV_set28 ws HX.out sp (gp + n) _ _))
         clear ho ho2 hb hg hat c28)
      | (go_at_call 44
         with_reducible refine (l01FaceC ws HX.out sp (gp + n) B d l w.heap.size _ Q0.out (Kd.R_reads' R5.out).2.2 (Kd.R_reads' R5.out).2.1 HL.out HF2.out).mono ?_
         rintro e w6 ⟨rfl, hb⟩
         rw [EB.out]
         have B6 := Lib.hid (below_step (below_set B8.out (by omega)) hb)
         have T0 := Lib.hid ((hb.block w.heap.size (by have := S8.out; simp; omega)).trans Q0.out)
         have T1 := Lib.hid ((hb.block (w.heap.size + 1) (by have := S8.out; simp; omega)).trans Q1.out)
         have R6 := Lib.hid (Kd.R_below R5.out hb)
         clear hb
         have q6 := loadF T0.out HX.out HM.out
         have hst := storeF T1.out Z26_len HX.out (sp' := sp) (gp' := gp + n) (A := B) (n := l.length) (c := d)
         have PE := Lib.hid (setRow_heap w6 (w.heap.size + 1) _ (FV ws sp (gp + n) (.slice B l.length d)) U (0, 0) T1.out)))
    refine bodyPost_ret (results_face rfl _ _ (w.heap.size + 1) U ws HX.out sp (gp + n) (.slice B l.length d) rfl PE.out) rfl ?_
    refine ⟨B, d, rfl, Kd.R_mono (Kd.R_step R6.out (fun k hk _ => setRow_other _ _ _ _ ?_)) (fun _ _ => trivial), below_setRow B6.out (by omega) _⟩
    omega
end Go.Proofs.YtimkkjkgbbfgbaaGreatDoor.Q
end
