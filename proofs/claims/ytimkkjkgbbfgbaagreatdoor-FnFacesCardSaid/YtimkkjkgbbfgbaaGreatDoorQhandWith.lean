/- impl.WithPair, by hand. -/
import Derived.Test.YtimkkjkgbbfgbaaGreatDoorQLs
namespace Go.Proofs.YtimkkjkgbbfgbaaGreatDoor.Q
open Go.RowKit Go.Proofs.YtimkkjkgbbfgbaaGreatDoorW.PrintWords Go.Proofs.YtimkkjkgbbfgbaaGreatDoorW.PrintLast Go.Proofs.YtimkkjkgbbfgbaaGreatDoorW.PrintMore
open Go.Proofs.YtimkkjkgbbfgbaaGreatDoor.Pure
set_option linter.unusedVariables false
set_option linter.unusedSimpArgs false

theorem below_weak {B D : Nat} {W W' : World} (h : Below D W W') (hB : B ≤ D) : Below B W W' := ⟨h.os, h.tape, h.output, h.size, fun i hi => h.block i (by omega)⟩
theorem below_of_grown {B g : Nat} {W W' : World} (h : W.grownBy W' (some g)) (hg : B ≤ g) (hs : B ≤ W.heap.size) : Below B W W' := ⟨h.os, h.tape, h.output, h.size, fun i hi => h.block i (by omega) (fun he => by injection he with he; omega)⟩
theorem sortPC' (g c n : Nat) (l : List S33) (hn : l.length = n) (base : Nat) (ok : Nat → Prop) (w : World) (hR : Kd.R k33 33 w base ok (.slice (some ⟨g, 0, none⟩) n c) l) (hl : l.length ≤ 1048576) :
    Calls Tryz.prog 42 #[.slice (some ⟨g, 0, none⟩) n c, .func (.func 41) #[] #[]] w fun e w' => e = .returned (.tuple #[]) ∧ ∃ l' : List S33, l'.Perm l ∧ l'.Pairwise (fun x y => aheadP y x = false) ∧ Kd.R k33 33 w' base ok (.slice (some ⟨g, 0, none⟩) n c) l' ∧ w.grownBy w' (some g) := by
  subst hn
  exact sortPC g c l base ok w hR hl
theorem closure44' (p x : S33) (gp : Nat) (W : World) (hg : W.heap[gp]? = some (.cells #[.int .u8 p.f0, .int .u8 p.f1, .int .i8 p.f2] 33)) :
    Calls Tryz.prog 40 (#[.agg #[.int .u8 x.f0, .int .u8 x.f1, .int .i8 x.f2]] ++ #[.pointer (some ⟨gp, 0, none⟩)]) W fun e w' => e = .returned (.bool (keyB p x)) ∧ Below W.heap.size W w' := closure44 p x gp W hg

set_option maxHeartbeats 8000000 in
set_option maxRecDepth 100000 in
theorem implWithC (ws : List Int) (hx : ws.length = 26) (sp gp : Int) (A : Option Addr) (c : Nat) (l : List S33) (p : S33) (hp : -128 ≤ p.f2 ∧ p.f2 ≤ 127) (w : World) (hr : Kd.C k33 w A l.length l) (hc : l.length ≤ c) (hl : l.length ≤ 1048576) (hf : Fit ws sp gp l) (r : Face) (code : Int) (h : withR ws sp gp l p = (r, code)) :
    Calls Tryz.prog 10 #[.agg (FV ws sp gp (.slice A l.length c)), .agg #[.int .u8 p.f0, .int .u8 p.f1, .int .i8 p.f2]] w fun e w' => ∃ B d, e = .returned (.tuple #[.agg (FV r.1 r.2.1 r.2.2.1 (.slice B r.2.2.2.length d)), .int .i64 code]) ∧ Kd.R k33 33 w' w.heap.size (fun _ => True) (.slice B r.2.2.2.length d) r.2.2.2 ∧ Below w.heap.size w w' := by
  go_enter Tryz.func10, Tryz.ntmps10
  obtain ⟨M, hM⟩ : ∃ M : Nat, M = 29 := ⟨_, rfl⟩
  obtain ⟨U, hU⟩ : ∃ U : TypeId, U = 28 := ⟨_, rfl⟩
  have huU := fun w => (show (underlying U).run Tryz.prog w = (underlying 28).run Tryz.prog w by rw [hU]).trans (run_underlying (P := Tryz.prog) (w := w) Tryz.underlying28)
  have hzU : ∀ w, (sizeOf U).run Tryz.prog w = .ok M w := fun w => by rw [hM, hU]; exact Tryz.sizeOf28 w
  have haU : ∀ w, (isAgg U).run Tryz.prog w = .ok true w := fun w => by rw [hU]; exact Tryz.isAgg28 w
  have hvU : ∀ w, (zeroValue U).run Tryz.prog w = .ok (.agg ZF) w := fun w => by rw [hU]; exact Tryz.zeroValue28 w
  have e2 : ∀ x, Op.load 28 x = Op.load U x := fun x => by rw [hU]
  have e3 : ∀ x y, Op.store 28 x y = Op.store U x y := fun x y => by rw [hU]
  have e4 : Op.alloc 28 = Op.alloc U := by rw [hU]
  have e5 : ∀ x, Op.build 28 x = Op.build U x := fun x => by rw [hU]
  simp only [e2, e3, e4, e5]
  clear e2 e3 e4 e5
  have hFa : ∀ g v, (FV ws sp g v).size = M := fun g v => by rw [FV_size ws hx, hM]
  have hFz : ZF.size = M := by rw [hM]; rfl
  have HM := Lib.hid hM
  have HX := Lib.hid hx
  have HR := Lib.hid hr
  have HC := Lib.hid hc
  have HL := Lib.hid hl
  have HF := Lib.hid hf
  clear hM hU hx hr hc hl hf
  have EG := Lib.hid (show ∀ args w, (callFunc 40 args).run Tryz.prog w = .ok (.enter 40 args) w from enters_of Tryz.func40 (by kernel_rfl) rfl)
  have H3 := Lib.hid (three_blocks w (.cells (FV ws sp gp (.slice A l.length c)) 28) (.cells #[.int .u8 p.f0, .int .u8 p.f1, .int .i8 p.f2] 33) (.cells ZF U))
  have HB := Lib.hid (below_alloc (below_alloc (below_alloc (Below.refl w.heap.size w) (.cells (FV ws sp gp (.slice A l.length c)) 28)) (.cells #[.int .u8 p.f0, .int .u8 p.f1, .int .i8 p.f2] 33)) (.cells ZF U))
  have HS3 := Lib.hid (show ((((w.alloc (.cells (FV ws sp gp (.slice A l.length c)) 28)).alloc (.cells #[.int .u8 p.f0, .int .u8 p.f1, .int .i8 p.f2] 33)).alloc (.cells ZF U))).heap.size = w.heap.size + 3 by simp)
  have q0 := loadF H3.out.1 HX.out HM.out
  unfold withR at h
  have HP := Lib.hid hp
  clear hp
  cases hv : validB ws sp gp l with
  | false =>
    rw [hv, if_neg (by simp)] at h
    obtain ⟨rfl, rfl⟩ := Prod.mk.inj h
    have EV := Lib.hid hv
    clear hv h
    go_wp2_with (first
      | (go_at_call 17
         with_reducible refine (implValidC ws HX.out sp gp A c l _ (Kd.C_below HR.out HB.out) HC.out HL.out HF.out false EV.out).mono ?_
         rintro e w1 ⟨rfl, hb⟩
         have B1 := Lib.hid (below_step HB.out hb)
         have S1 := Lib.hid (show w.heap.size + 3 ≤ w1.heap.size from HS3.out ▸ hb.size)
         have K0 := Lib.hid ((hb.block w.heap.size (by rw [HS3.out]; omega)).trans H3.out.1)
         have K1 := Lib.hid ((hb.block (w.heap.size + 1) (by rw [HS3.out]; omega)).trans H3.out.2.1)
         have K2 := Lib.hid ((hb.block (w.heap.size + 2) (by rw [HS3.out]; omega)).trans H3.out.2.2)
         clear hb q0
         have hst : (storeCells ⟨w.heap.size + 2, 0, none⟩ ZF.toList 0).run Tryz.prog w1 = .ok () (w1.setRow (w.heap.size + 2) ZF) := storeF K2.out Z26_len Z26_len
         have PE := Lib.hid (setRow_heap w1 (w.heap.size + 2) _ ZF U (0, 0) K2.out)))
    refine bodyPost_ret (results_face rfl _ _ (w.heap.size + 2) U Z26 Z26_len 0 0 (.slice none 0 0) rfl PE.out) rfl ?_
    exact ⟨none, 0, rfl, Kd.R_nil _ _ _ _ _, below_setRow B1.out (by omega) _⟩
  | true =>
  rw [hv, if_pos rfl] at h
  obtain ⟨hpr, hl12⟩ := valid_pairs hv
  have HST := Lib.hid (pairs_strict hpr)
  have HL12 := Lib.hid hl12
  have EV := Lib.hid hv
  clear hv hpr hl12
  cases ha : letB p.f0 with
  | false =>
    rw [ha, Bool.false_and, if_neg (by simp)] at h
    obtain ⟨rfl, rfl⟩ := Prod.mk.inj h
    have LA := Lib.hid ha
    clear ha h
    go_wp2_with (first
      | (go_at_call 17
         with_reducible refine (implValidC ws HX.out sp gp A c l _ (Kd.C_below HR.out HB.out) HC.out HL.out HF.out true EV.out).mono ?_
         rintro e w1 ⟨rfl, hb⟩
         have B1 := Lib.hid (below_step HB.out hb)
         have S1 := Lib.hid (show w.heap.size + 3 ≤ w1.heap.size from HS3.out ▸ hb.size)
         have K0 := Lib.hid ((hb.block w.heap.size (by rw [HS3.out]; omega)).trans H3.out.1)
         have K1 := Lib.hid ((hb.block (w.heap.size + 1) (by rw [HS3.out]; omega)).trans H3.out.2.1)
         have K2 := Lib.hid ((hb.block (w.heap.size + 2) (by rw [HS3.out]; omega)).trans H3.out.2.2)
         clear hb q0
         have d0 : w1.cell? ⟨w.heap.size + 1, 0, none⟩ = some (.int .u8 p.f0) := (blk_cell K1.out 0).trans rfl
         have d1 : w1.cell? ⟨w.heap.size + 1, 1, none⟩ = some (.int .u8 p.f1) := (blk_cell K1.out 1).trans rfl
         have hst : (storeCells ⟨w.heap.size + 2, 0, none⟩ ZF.toList 0).run Tryz.prog w1 = .ok () (w1.setRow (w.heap.size + 2) ZF) := storeF K2.out Z26_len Z26_len
         have PE := Lib.hid (setRow_heap w1 (w.heap.size + 2) _ ZF U (0, 0) K2.out))
      | (go_at_call 37; with_reducible refine (impl_letter_is p.f0 false _ LA.out).mono ?_; rintro e w' ⟨rfl, rfl⟩))
    refine bodyPost_ret (results_face rfl _ _ (w.heap.size + 2) U Z26 Z26_len 0 0 (.slice none 0 0) rfl PE.out) rfl ?_
    exact ⟨none, 0, rfl, Kd.R_nil _ _ _ _ _, below_setRow B1.out (by omega) _⟩
  | true =>
  have LA := Lib.hid ha
  cases hb : letB p.f1 with
  | false =>
    rw [ha, hb, Bool.and_false, if_neg (by simp)] at h
    obtain ⟨rfl, rfl⟩ := Prod.mk.inj h
    have LB := Lib.hid hb
    clear ha hb h
    go_wp2_with (first
      | (go_at_call 17
         with_reducible refine (implValidC ws HX.out sp gp A c l _ (Kd.C_below HR.out HB.out) HC.out HL.out HF.out true EV.out).mono ?_
         rintro e w1 ⟨rfl, hb⟩
         have B1 := Lib.hid (below_step HB.out hb)
         have S1 := Lib.hid (show w.heap.size + 3 ≤ w1.heap.size from HS3.out ▸ hb.size)
         have K0 := Lib.hid ((hb.block w.heap.size (by rw [HS3.out]; omega)).trans H3.out.1)
         have K1 := Lib.hid ((hb.block (w.heap.size + 1) (by rw [HS3.out]; omega)).trans H3.out.2.1)
         have K2 := Lib.hid ((hb.block (w.heap.size + 2) (by rw [HS3.out]; omega)).trans H3.out.2.2)
         clear hb q0
         have d0 : w1.cell? ⟨w.heap.size + 1, 0, none⟩ = some (.int .u8 p.f0) := (blk_cell K1.out 0).trans rfl
         have d1 : w1.cell? ⟨w.heap.size + 1, 1, none⟩ = some (.int .u8 p.f1) := (blk_cell K1.out 1).trans rfl
         have hst : (storeCells ⟨w.heap.size + 2, 0, none⟩ ZF.toList 0).run Tryz.prog w1 = .ok () (w1.setRow (w.heap.size + 2) ZF) := storeF K2.out Z26_len Z26_len
         have PE := Lib.hid (setRow_heap w1 (w.heap.size + 2) _ ZF U (0, 0) K2.out))
      | (go_at_call 37; with_reducible refine (impl_letter_is p.f0 true _ LA.out).mono ?_; rintro e w' ⟨rfl, rfl⟩)
      | (go_at_call 37; with_reducible refine (impl_letter_is p.f1 false _ LB.out).mono ?_; rintro e w' ⟨rfl, rfl⟩))
    refine bodyPost_ret (results_face rfl _ _ (w.heap.size + 2) U Z26 Z26_len 0 0 (.slice none 0 0) rfl PE.out) rfl ?_
    exact ⟨none, 0, rfl, Kd.R_nil _ _ _ _ _, below_setRow B1.out (by omega) _⟩
  | true =>
  rw [ha, hb, Bool.and_true, if_pos rfl] at h
  have LB := Lib.hid hb
  clear ha hb
  have HF2 := Lib.hid (fit_put HF.out HP.out)
  have HLP := Lib.hid (show (putP p l).length ≤ 13 from by have h1 := putGo_len p l (decide (p.f2 = 0)); have h2 := HL12.out; unfold putP; omega)
  have HPZ := Lib.hid (fun hz : p.f2 = 0 => (putP_zero (l := l) hz).symm)
  have HPS0 := Lib.hid (fun (hz : p.f2 ≠ 0) (l' : List S33) h1 h2 => putP_sort (p := p) (l := l) (l' := l') HST.out hz h1 h2)
  have HPN := Lib.hid (fun hz : p.f2 ≠ 0 => show (putP p l).length = (l.filter (fun x => !keyB p x)).length + 1 from by
    have := (putGo_perm p l).length_eq
    unfold putP
    rw [decide_eq_false hz, this, List.length_append, List.length_singleton])
  obtain ⟨lp, hlp⟩ : ∃ lp, lp = putP p l := ⟨_, rfl⟩
  rw [← hlp] at h HF2 HLP HPZ HPS0 HPN
  clear hlp
  obtain ⟨fb, hfb⟩ : ∃ b, faceB ws sp gp lp = b := ⟨_, rfl⟩
  rw [hfb] at h
  have EB := Lib.hid hfb
  clear hfb
  by_cases hz : p.f2 = 0
  · have HLF := Lib.hid (HPZ.out hz)
    have HZ0 := Lib.hid hz
    have EH := Lib.hid h
    clear hz h HPZ HPS0 HPN
    cases fb with
    | false =>
      obtain ⟨rfl, rfl⟩ := Prod.mk.inj ((if_neg (by simp)).symm.trans EH.out)
      clear EH
      go_wp2_with (first
        | (go_at_call 17
           with_reducible refine (implValidC ws HX.out sp gp A c l _ (Kd.C_below HR.out HB.out) HC.out HL.out HF.out true EV.out).mono ?_
           rintro e w1 ⟨rfl, hb⟩
           have B1 := Lib.hid (below_step HB.out hb)
           have S1 := Lib.hid (show w.heap.size + 3 ≤ w1.heap.size from HS3.out ▸ hb.size)
           have K0 := Lib.hid ((hb.block w.heap.size (by rw [HS3.out]; omega)).trans H3.out.1)
           have K1 := Lib.hid ((hb.block (w.heap.size + 1) (by rw [HS3.out]; omega)).trans H3.out.2.1)
           have K2 := Lib.hid ((hb.block (w.heap.size + 2) (by rw [HS3.out]; omega)).trans H3.out.2.2)
           clear hb q0
           have d0 : w1.cell? ⟨w.heap.size + 1, 0, none⟩ = some (.int .u8 p.f0) := (blk_cell K1.out 0).trans rfl
           have d1 : w1.cell? ⟨w.heap.size + 1, 1, none⟩ = some (.int .u8 p.f1) := (blk_cell K1.out 1).trans rfl
           have q1 := loadF K0.out HX.out HM.out
           obtain ⟨x1, x2, x3⟩ := boxed w1 U ws sp gp (.slice A l.length c)
           have hst1 := store_new w1 U ws HX.out sp gp A l.length c
           obtain ⟨w2, hw2⟩ : ∃ w2, w2 = (w1.alloc (.cells ZF U)).setRow w1.heap.size (FV ws sp gp (.slice A l.length c)) := ⟨_, rfl⟩
           rw [← hw2] at hst1 x1 x2 x3
           clear hw2
           have B2 := Lib.hid (below_step B1.out x1)
           have S2 := Lib.hid x3
           have M0 := Lib.hid ((x1.block w.heap.size (by have := S1.out; omega)).trans K0.out)
           have M1 := Lib.hid ((x1.block (w.heap.size + 1) (by have := S1.out; omega)).trans K1.out)
           have M2 := Lib.hid ((x1.block (w.heap.size + 2) (by have := S1.out; omega)).trans K2.out)
           have M3 := Lib.hid x2
           clear x1 x2 x3
           have c28 := (blk_cell M0.out 28).trans (FV_28 ws HX.out _ _ _)
           have hne : ¬ w1.heap.size = w.heap.size + 1 := by have := S1.out; omega
           have hne' : ¬ w.heap.size + 1 = w1.heap.size := by have := S1.out; omega)
        | (go_at_call 37; with_reducible refine (impl_letter_is p.f0 true _ LA.out).mono ?_; rintro e w' ⟨rfl, rfl⟩)
        | (go_at_call 37; with_reducible refine (impl_letter_is p.f1 true _ LB.out).mono ?_; rintro e w' ⟨rfl, rfl⟩)
        | (go_at_call 39
           with_reducible refine (cloneC A c l _ (Kd.C_below HR.out B2.out) HC.out HL.out).mono ?_
           rintro e w3 ⟨B, d, rfl, hR, hb⟩
           have B3 := Lib.hid (below_step B2.out hb)
           have R3 := Lib.hid hR
           have S3 := Lib.hid (show w2.heap.size ≤ w3.heap.size from hb.size)
           have N1 := Lib.hid ((hb.block (w.heap.size + 1) (by have := S1.out; have := S2.out; omega)).trans M1.out)
           have N2 := Lib.hid ((hb.block (w.heap.size + 2) (by have := S1.out; have := S2.out; omega)).trans M2.out)
           have N3 := Lib.hid ((hb.block w1.heap.size S2.out).trans M3.out)
           clear hR hb c28 hst1 q1)
        | (go_at_call 38
           with_reducible refine (delete_func_pair 40 #[.pointer (some ⟨w.heap.size + 1, 0, none⟩)] (keyB p) l B d w2.heap.size (fun _ => True) w3 EG.out R3.out S3.out HL.out (fun x hx W hW => closure44' p x (w.heap.size + 1) W ((hW.block _ (by have := S1.out; have := S2.out; omega)).trans N1.out))).mono ?_
           rintro e w4 ⟨he, hR, hb⟩
           rw [HLF.out] at he hR
           subst he
           have B4 := Lib.hid (B3.out.trans (below_weak hb (by have := S1.out; have := S2.out; omega)))
           have S4 := Lib.hid (show w2.heap.size ≤ w4.heap.size from Nat.le_trans S3.out hb.size)
           have O1 := Lib.hid ((hb.block (w.heap.size + 1) (by have := S1.out; have := S2.out; omega)).trans N1.out)
           have O2 := Lib.hid ((hb.block (w.heap.size + 2) (by have := S1.out; have := S2.out; omega)).trans N2.out)
           have O3 := Lib.hid ((hb.block w1.heap.size S2.out).trans N3.out)
           have g28 := (blk_cell O3.out 28).trans (FV_28 ws HX.out _ _ _)
           have fz28 := blk_frozen O3.out 28
           have d0 : w4.cell? ⟨w.heap.size + 1, 0, none⟩ = some (.int .u8 p.f0) := (blk_cell O1.out 0).trans rfl
           have d1 : w4.cell? ⟨w.heap.size + 1, 1, none⟩ = some (.int .u8 p.f1) := (blk_cell O1.out 1).trans rfl
           have d2 : w4.cell? ⟨w.heap.size + 1, 2, none⟩ = some (.int .i8 0) := (blk_cell O1.out 2).trans (by rw [HZ0.out]; rfl)
           have RR := Lib.hid (Kd.R_lower (Kd.R_mono (Kd.R_bound hR) (fun k hk => show w1.heap.size < k by have h1 := hk.2.1; have h2 := S2.out; omega)) (show w.heap.size ≤ _ by have := S1.out; have := S2.out; omega))
           have R5 := Lib.hid (Kd.R_far RR.out (p := ⟨w1.heap.size, 28, none⟩) (fun k hk => by show k ≠ w1.heap.size; omega) (.slice B lp.length d))
           have B5 := Lib.hid (show Below w.heap.size w (w4.setCell ⟨w1.heap.size, 28, none⟩ (.slice B lp.length d)) from below_set B4.out (by have := S1.out; omega))
           have Q2 := Lib.hid (blk_far (p := ⟨w1.heap.size, 28, none⟩) O2.out (by show w.heap.size + 2 ≠ w1.heap.size; have := S1.out; omega) (.slice B lp.length d))
           have Q3 := Lib.hid (blk_put O3.out 28 (.slice B lp.length d) (FV_set28 ws HX.out sp gp _ _))
           have S5 := Lib.hid (show w1.heap.size < (w4.setCell ⟨w1.heap.size, 28, none⟩ (.slice B lp.length d)).heap.size by have := S4.out; have := S2.out; simp; omega)
           clear hR hb
           have q8 := loadF Q3.out HX.out HM.out)
        | (go_at_call 43
           with_reducible refine (isFaceC ws HX.out sp gp B d lp _ (Kd.R_reads' R5.out).2.2 (Kd.R_reads' R5.out).2.1 (by have := HLP.out; omega) HF2.out).mono ?_
           rintro e w9 ⟨rfl, hb⟩
           rw [EB.out]
           have B9 := Lib.hid (below_step B5.out hb)
           have V2 := Lib.hid ((hb.block (w.heap.size + 2) (by have := S1.out; have := S5.out; simp at this ⊢; omega)).trans Q2.out)
           have V3 := Lib.hid ((hb.block w1.heap.size (by have := S5.out; simp at this ⊢; omega)).trans Q3.out)
           have R9 := Lib.hid (Kd.R_below R5.out hb)
           clear hb
           have h28 := (blk_cell V3.out 28).trans (FV_28 ws HX.out _ _ _)
           have hst : (storeCells ⟨w.heap.size + 2, 0, none⟩ ZF.toList 0).run Tryz.prog w9 = .ok () (w9.setRow (w.heap.size + 2) ZF) := storeF V2.out Z26_len Z26_len
           have PE := Lib.hid (setRow_heap w9 (w.heap.size + 2) _ ZF U (0, 0) V2.out)))
      refine bodyPost_ret (results_face rfl _ _ (w.heap.size + 2) U Z26 Z26_len 0 0 (.slice none 0 0) rfl PE.out) rfl ?_
      exact ⟨none, 0, rfl, Kd.R_nil _ _ _ _ _, below_setRow B9.out (by omega) _⟩
    | true =>
    have EH2 := Lib.hid ((if_pos rfl).symm.trans EH.out)
    clear EH
    by_cases hle : (lp.length : Int) ≤ 12
    · obtain ⟨rfl, rfl⟩ := Prod.mk.inj ((if_pos hle).symm.trans EH2.out)
      clear EH2
      have hgt : ¬ (12 < (lp.length : Int)) := by omega
      have hgt2 : decide ((lp.length : Int) > 12) = false := decide_eq_false (by omega)
      clear hle
      go_wp2_with (first
        | (go_at_call 17
           with_reducible refine (implValidC ws HX.out sp gp A c l _ (Kd.C_below HR.out HB.out) HC.out HL.out HF.out true EV.out).mono ?_
           rintro e w1 ⟨rfl, hb⟩
           have B1 := Lib.hid (below_step HB.out hb)
           have S1 := Lib.hid (show w.heap.size + 3 ≤ w1.heap.size from HS3.out ▸ hb.size)
           have K0 := Lib.hid ((hb.block w.heap.size (by rw [HS3.out]; omega)).trans H3.out.1)
           have K1 := Lib.hid ((hb.block (w.heap.size + 1) (by rw [HS3.out]; omega)).trans H3.out.2.1)
           have K2 := Lib.hid ((hb.block (w.heap.size + 2) (by rw [HS3.out]; omega)).trans H3.out.2.2)
           clear hb q0
           have d0 : w1.cell? ⟨w.heap.size + 1, 0, none⟩ = some (.int .u8 p.f0) := (blk_cell K1.out 0).trans rfl
           have d1 : w1.cell? ⟨w.heap.size + 1, 1, none⟩ = some (.int .u8 p.f1) := (blk_cell K1.out 1).trans rfl
           have q1 := loadF K0.out HX.out HM.out
           obtain ⟨x1, x2, x3⟩ := boxed w1 U ws sp gp (.slice A l.length c)
           have hst1 := store_new w1 U ws HX.out sp gp A l.length c
           obtain ⟨w2, hw2⟩ : ∃ w2, w2 = (w1.alloc (.cells ZF U)).setRow w1.heap.size (FV ws sp gp (.slice A l.length c)) := ⟨_, rfl⟩
           rw [← hw2] at hst1 x1 x2 x3
           clear hw2
           have B2 := Lib.hid (below_step B1.out x1)
           have S2 := Lib.hid x3
           have M0 := Lib.hid ((x1.block w.heap.size (by have := S1.out; omega)).trans K0.out)
           have M1 := Lib.hid ((x1.block (w.heap.size + 1) (by have := S1.out; omega)).trans K1.out)
           have M2 := Lib.hid ((x1.block (w.heap.size + 2) (by have := S1.out; omega)).trans K2.out)
           have M3 := Lib.hid x2
           clear x1 x2 x3
           have c28 := (blk_cell M0.out 28).trans (FV_28 ws HX.out _ _ _)
           have hne : ¬ w1.heap.size = w.heap.size + 1 := by have := S1.out; omega
           have hne' : ¬ w.heap.size + 1 = w1.heap.size := by have := S1.out; omega)
        | (go_at_call 37; with_reducible refine (impl_letter_is p.f0 true _ LA.out).mono ?_; rintro e w' ⟨rfl, rfl⟩)
        | (go_at_call 37; with_reducible refine (impl_letter_is p.f1 true _ LB.out).mono ?_; rintro e w' ⟨rfl, rfl⟩)
        | (go_at_call 39
           with_reducible refine (cloneC A c l _ (Kd.C_below HR.out B2.out) HC.out HL.out).mono ?_
           rintro e w3 ⟨B, d, rfl, hR, hb⟩
           have B3 := Lib.hid (below_step B2.out hb)
           have R3 := Lib.hid hR
           have S3 := Lib.hid (show w2.heap.size ≤ w3.heap.size from hb.size)
           have N1 := Lib.hid ((hb.block (w.heap.size + 1) (by have := S1.out; have := S2.out; omega)).trans M1.out)
           have N2 := Lib.hid ((hb.block (w.heap.size + 2) (by have := S1.out; have := S2.out; omega)).trans M2.out)
           have N3 := Lib.hid ((hb.block w1.heap.size S2.out).trans M3.out)
           clear hR hb c28 hst1 q1)
        | (go_at_call 38
           with_reducible refine (delete_func_pair 40 #[.pointer (some ⟨w.heap.size + 1, 0, none⟩)] (keyB p) l B d w2.heap.size (fun _ => True) w3 EG.out R3.out S3.out HL.out (fun x hx W hW => closure44' p x (w.heap.size + 1) W ((hW.block _ (by have := S1.out; have := S2.out; omega)).trans N1.out))).mono ?_
           rintro e w4 ⟨he, hR, hb⟩
           rw [HLF.out] at he hR
           subst he
           have B4 := Lib.hid (B3.out.trans (below_weak hb (by have := S1.out; have := S2.out; omega)))
           have S4 := Lib.hid (show w2.heap.size ≤ w4.heap.size from Nat.le_trans S3.out hb.size)
           have O1 := Lib.hid ((hb.block (w.heap.size + 1) (by have := S1.out; have := S2.out; omega)).trans N1.out)
           have O2 := Lib.hid ((hb.block (w.heap.size + 2) (by have := S1.out; have := S2.out; omega)).trans N2.out)
           have O3 := Lib.hid ((hb.block w1.heap.size S2.out).trans N3.out)
           have g28 := (blk_cell O3.out 28).trans (FV_28 ws HX.out _ _ _)
           have fz28 := blk_frozen O3.out 28
           have d0 : w4.cell? ⟨w.heap.size + 1, 0, none⟩ = some (.int .u8 p.f0) := (blk_cell O1.out 0).trans rfl
           have d1 : w4.cell? ⟨w.heap.size + 1, 1, none⟩ = some (.int .u8 p.f1) := (blk_cell O1.out 1).trans rfl
           have d2 : w4.cell? ⟨w.heap.size + 1, 2, none⟩ = some (.int .i8 0) := (blk_cell O1.out 2).trans (by rw [HZ0.out]; rfl)
           have RR := Lib.hid (Kd.R_lower (Kd.R_mono (Kd.R_bound hR) (fun k hk => show w1.heap.size < k by have h1 := hk.2.1; have h2 := S2.out; omega)) (show w.heap.size ≤ _ by have := S1.out; have := S2.out; omega))
           have R5 := Lib.hid (Kd.R_far RR.out (p := ⟨w1.heap.size, 28, none⟩) (fun k hk => by show k ≠ w1.heap.size; omega) (.slice B lp.length d))
           have B5 := Lib.hid (show Below w.heap.size w (w4.setCell ⟨w1.heap.size, 28, none⟩ (.slice B lp.length d)) from below_set B4.out (by have := S1.out; omega))
           have Q2 := Lib.hid (blk_far (p := ⟨w1.heap.size, 28, none⟩) O2.out (by show w.heap.size + 2 ≠ w1.heap.size; have := S1.out; omega) (.slice B lp.length d))
           have Q3 := Lib.hid (blk_put O3.out 28 (.slice B lp.length d) (FV_set28 ws HX.out sp gp _ _))
           have S5 := Lib.hid (show w1.heap.size < (w4.setCell ⟨w1.heap.size, 28, none⟩ (.slice B lp.length d)).heap.size by have := S4.out; have := S2.out; simp; omega)
           clear hR hb
           have q8 := loadF Q3.out HX.out HM.out)
        | (go_at_call 43
           with_reducible refine (isFaceC ws HX.out sp gp B d lp _ (Kd.R_reads' R5.out).2.2 (Kd.R_reads' R5.out).2.1 (by have := HLP.out; omega) HF2.out).mono ?_
           rintro e w9 ⟨rfl, hb⟩
           rw [EB.out]
           have B9 := Lib.hid (below_step B5.out hb)
           have V2 := Lib.hid ((hb.block (w.heap.size + 2) (by have := S1.out; have := S5.out; simp at this ⊢; omega)).trans Q2.out)
           have V3 := Lib.hid ((hb.block w1.heap.size (by have := S5.out; simp at this ⊢; omega)).trans Q3.out)
           have R9 := Lib.hid (Kd.R_below R5.out hb)
           clear hb
           have h28 := (blk_cell V3.out 28).trans (FV_28 ws HX.out _ _ _)
           have q9 := loadF V3.out HX.out HM.out
           have hst : (storeCells ⟨w.heap.size + 2, 0, none⟩ (FV ws sp gp (.slice B lp.length d)).toList 0).run Tryz.prog w9 = .ok () (w9.setRow (w.heap.size + 2) (FV ws sp gp (.slice B lp.length d))) := storeF V2.out Z26_len HX.out
           have PE := Lib.hid (setRow_heap w9 (w.heap.size + 2) _ (FV ws sp gp (.slice B lp.length d)) U (0, 0) V2.out)))
      refine bodyPost_ret (results_face rfl _ _ (w.heap.size + 2) U ws HX.out sp gp (.slice B lp.length d) rfl PE.out) rfl ?_
      refine ⟨B, d, rfl, Kd.R_mono (Kd.R_step R9.out (fun k hk _ => setRow_other _ _ _ _ ?_)) (fun _ _ => trivial), below_setRow B9.out (by omega) _⟩
      have := S1.out
      omega
    · obtain ⟨rfl, rfl⟩ := Prod.mk.inj ((if_neg hle).symm.trans EH2.out)
      clear EH2
      have hgt : 12 < (lp.length : Int) := by omega
      have hgt2 : decide ((lp.length : Int) > 12) = true := decide_eq_true (by omega)
      clear hle
      go_wp2_with (first
        | (go_at_call 17
           with_reducible refine (implValidC ws HX.out sp gp A c l _ (Kd.C_below HR.out HB.out) HC.out HL.out HF.out true EV.out).mono ?_
           rintro e w1 ⟨rfl, hb⟩
           have B1 := Lib.hid (below_step HB.out hb)
           have S1 := Lib.hid (show w.heap.size + 3 ≤ w1.heap.size from HS3.out ▸ hb.size)
           have K0 := Lib.hid ((hb.block w.heap.size (by rw [HS3.out]; omega)).trans H3.out.1)
           have K1 := Lib.hid ((hb.block (w.heap.size + 1) (by rw [HS3.out]; omega)).trans H3.out.2.1)
           have K2 := Lib.hid ((hb.block (w.heap.size + 2) (by rw [HS3.out]; omega)).trans H3.out.2.2)
           clear hb q0
           have d0 : w1.cell? ⟨w.heap.size + 1, 0, none⟩ = some (.int .u8 p.f0) := (blk_cell K1.out 0).trans rfl
           have d1 : w1.cell? ⟨w.heap.size + 1, 1, none⟩ = some (.int .u8 p.f1) := (blk_cell K1.out 1).trans rfl
           have q1 := loadF K0.out HX.out HM.out
           obtain ⟨x1, x2, x3⟩ := boxed w1 U ws sp gp (.slice A l.length c)
           have hst1 := store_new w1 U ws HX.out sp gp A l.length c
           obtain ⟨w2, hw2⟩ : ∃ w2, w2 = (w1.alloc (.cells ZF U)).setRow w1.heap.size (FV ws sp gp (.slice A l.length c)) := ⟨_, rfl⟩
           rw [← hw2] at hst1 x1 x2 x3
           clear hw2
           have B2 := Lib.hid (below_step B1.out x1)
           have S2 := Lib.hid x3
           have M0 := Lib.hid ((x1.block w.heap.size (by have := S1.out; omega)).trans K0.out)
           have M1 := Lib.hid ((x1.block (w.heap.size + 1) (by have := S1.out; omega)).trans K1.out)
           have M2 := Lib.hid ((x1.block (w.heap.size + 2) (by have := S1.out; omega)).trans K2.out)
           have M3 := Lib.hid x2
           clear x1 x2 x3
           have c28 := (blk_cell M0.out 28).trans (FV_28 ws HX.out _ _ _)
           have hne : ¬ w1.heap.size = w.heap.size + 1 := by have := S1.out; omega
           have hne' : ¬ w.heap.size + 1 = w1.heap.size := by have := S1.out; omega)
        | (go_at_call 37; with_reducible refine (impl_letter_is p.f0 true _ LA.out).mono ?_; rintro e w' ⟨rfl, rfl⟩)
        | (go_at_call 37; with_reducible refine (impl_letter_is p.f1 true _ LB.out).mono ?_; rintro e w' ⟨rfl, rfl⟩)
        | (go_at_call 39
           with_reducible refine (cloneC A c l _ (Kd.C_below HR.out B2.out) HC.out HL.out).mono ?_
           rintro e w3 ⟨B, d, rfl, hR, hb⟩
           have B3 := Lib.hid (below_step B2.out hb)
           have R3 := Lib.hid hR
           have S3 := Lib.hid (show w2.heap.size ≤ w3.heap.size from hb.size)
           have N1 := Lib.hid ((hb.block (w.heap.size + 1) (by have := S1.out; have := S2.out; omega)).trans M1.out)
           have N2 := Lib.hid ((hb.block (w.heap.size + 2) (by have := S1.out; have := S2.out; omega)).trans M2.out)
           have N3 := Lib.hid ((hb.block w1.heap.size S2.out).trans M3.out)
           clear hR hb c28 hst1 q1)
        | (go_at_call 38
           with_reducible refine (delete_func_pair 40 #[.pointer (some ⟨w.heap.size + 1, 0, none⟩)] (keyB p) l B d w2.heap.size (fun _ => True) w3 EG.out R3.out S3.out HL.out (fun x hx W hW => closure44' p x (w.heap.size + 1) W ((hW.block _ (by have := S1.out; have := S2.out; omega)).trans N1.out))).mono ?_
           rintro e w4 ⟨he, hR, hb⟩
           rw [HLF.out] at he hR
           subst he
           have B4 := Lib.hid (B3.out.trans (below_weak hb (by have := S1.out; have := S2.out; omega)))
           have S4 := Lib.hid (show w2.heap.size ≤ w4.heap.size from Nat.le_trans S3.out hb.size)
           have O1 := Lib.hid ((hb.block (w.heap.size + 1) (by have := S1.out; have := S2.out; omega)).trans N1.out)
           have O2 := Lib.hid ((hb.block (w.heap.size + 2) (by have := S1.out; have := S2.out; omega)).trans N2.out)
           have O3 := Lib.hid ((hb.block w1.heap.size S2.out).trans N3.out)
           have g28 := (blk_cell O3.out 28).trans (FV_28 ws HX.out _ _ _)
           have fz28 := blk_frozen O3.out 28
           have d0 : w4.cell? ⟨w.heap.size + 1, 0, none⟩ = some (.int .u8 p.f0) := (blk_cell O1.out 0).trans rfl
           have d1 : w4.cell? ⟨w.heap.size + 1, 1, none⟩ = some (.int .u8 p.f1) := (blk_cell O1.out 1).trans rfl
           have d2 : w4.cell? ⟨w.heap.size + 1, 2, none⟩ = some (.int .i8 0) := (blk_cell O1.out 2).trans (by rw [HZ0.out]; rfl)
           have RR := Lib.hid (Kd.R_lower (Kd.R_mono (Kd.R_bound hR) (fun k hk => show w1.heap.size < k by have h1 := hk.2.1; have h2 := S2.out; omega)) (show w.heap.size ≤ _ by have := S1.out; have := S2.out; omega))
           have R5 := Lib.hid (Kd.R_far RR.out (p := ⟨w1.heap.size, 28, none⟩) (fun k hk => by show k ≠ w1.heap.size; omega) (.slice B lp.length d))
           have B5 := Lib.hid (show Below w.heap.size w (w4.setCell ⟨w1.heap.size, 28, none⟩ (.slice B lp.length d)) from below_set B4.out (by have := S1.out; omega))
           have Q2 := Lib.hid (blk_far (p := ⟨w1.heap.size, 28, none⟩) O2.out (by show w.heap.size + 2 ≠ w1.heap.size; have := S1.out; omega) (.slice B lp.length d))
           have Q3 := Lib.hid (blk_put O3.out 28 (.slice B lp.length d) (FV_set28 ws HX.out sp gp _ _))
           have S5 := Lib.hid (show w1.heap.size < (w4.setCell ⟨w1.heap.size, 28, none⟩ (.slice B lp.length d)).heap.size by have := S4.out; have := S2.out; simp; omega)
           clear hR hb
           have q8 := loadF Q3.out HX.out HM.out)
        | (go_at_call 43
           with_reducible refine (isFaceC ws HX.out sp gp B d lp _ (Kd.R_reads' R5.out).2.2 (Kd.R_reads' R5.out).2.1 (by have := HLP.out; omega) HF2.out).mono ?_
           rintro e w9 ⟨rfl, hb⟩
           rw [EB.out]
           have B9 := Lib.hid (below_step B5.out hb)
           have V2 := Lib.hid ((hb.block (w.heap.size + 2) (by have := S1.out; have := S5.out; simp at this ⊢; omega)).trans Q2.out)
           have V3 := Lib.hid ((hb.block w1.heap.size (by have := S5.out; simp at this ⊢; omega)).trans Q3.out)
           have R9 := Lib.hid (Kd.R_below R5.out hb)
           clear hb
           have h28 := (blk_cell V3.out 28).trans (FV_28 ws HX.out _ _ _)
           have hst : (storeCells ⟨w.heap.size + 2, 0, none⟩ ZF.toList 0).run Tryz.prog w9 = .ok () (w9.setRow (w.heap.size + 2) ZF) := storeF V2.out Z26_len Z26_len
           have PE := Lib.hid (setRow_heap w9 (w.heap.size + 2) _ ZF U (0, 0) V2.out)))
      refine bodyPost_ret (results_face rfl _ _ (w.heap.size + 2) U Z26 Z26_len 0 0 (.slice none 0 0) rfl PE.out) rfl ?_
      exact ⟨none, 0, rfl, Kd.R_nil _ _ _ _ _, below_setRow B9.out (by omega) _⟩
  · have HPS1 := Lib.hid (HPS0.out hz)
    have HPN1 := Lib.hid (HPN.out hz)
    have hz1 : (p.f2 != 0) = true := by simpa using hz
    have hz2 : (p.f2 == 0) = false := by simpa using hz
    have hz3 : decide (p.f2 = 0) = false := decide_eq_false hz
    have EH := Lib.hid h
    obtain ⟨l2, hl2⟩ : ∃ l2, l.filter (fun x => !keyB p x) = l2 := ⟨_, rfl⟩
    rw [hl2] at HPS1 HPN1
    have HLF := Lib.hid hl2
    obtain ⟨l3, hl3⟩ : ∃ l3, l2 ++ [p] = l3 := ⟨_, rfl⟩
    rw [hl3] at HPS1
    have HL3 := Lib.hid hl3
    have HN3 := Lib.hid (show l3.length = lp.length from by rw [← hl3, List.length_append, List.length_singleton, HPN1.out])
    have HL2 := Lib.hid (show l2.length ≤ 12 from by have := HLP.out; have := HPN1.out; omega)
    have HPS := Lib.hid (show ∀ l4 : List S33, l4.Perm l3 → l4.Pairwise (fun x y => aheadP y x = false) → lp = l4 from fun l4 h1 h2 => (HPS1.out l4 h1 h2).symm)
    clear h hl2 hl3 HPZ HPS0 HPN HPS1 HPN1
    cases fb with
    | false =>
      obtain ⟨rfl, rfl⟩ := Prod.mk.inj ((if_neg (by simp)).symm.trans EH.out)
      clear EH
      go_wp2_with (first
        | (go_at_call 17
           with_reducible refine (implValidC ws HX.out sp gp A c l _ (Kd.C_below HR.out HB.out) HC.out HL.out HF.out true EV.out).mono ?_
           rintro e w1 ⟨rfl, hb⟩
           have B1 := Lib.hid (below_step HB.out hb)
           have S1 := Lib.hid (show w.heap.size + 3 ≤ w1.heap.size from HS3.out ▸ hb.size)
           have K0 := Lib.hid ((hb.block w.heap.size (by rw [HS3.out]; omega)).trans H3.out.1)
           have K1 := Lib.hid ((hb.block (w.heap.size + 1) (by rw [HS3.out]; omega)).trans H3.out.2.1)
           have K2 := Lib.hid ((hb.block (w.heap.size + 2) (by rw [HS3.out]; omega)).trans H3.out.2.2)
           clear hb q0
           have d0 : w1.cell? ⟨w.heap.size + 1, 0, none⟩ = some (.int .u8 p.f0) := (blk_cell K1.out 0).trans rfl
           have d1 : w1.cell? ⟨w.heap.size + 1, 1, none⟩ = some (.int .u8 p.f1) := (blk_cell K1.out 1).trans rfl
           have q1 := loadF K0.out HX.out HM.out
           obtain ⟨x1, x2, x3⟩ := boxed w1 U ws sp gp (.slice A l.length c)
           have hst1 := store_new w1 U ws HX.out sp gp A l.length c
           obtain ⟨w2, hw2⟩ : ∃ w2, w2 = (w1.alloc (.cells ZF U)).setRow w1.heap.size (FV ws sp gp (.slice A l.length c)) := ⟨_, rfl⟩
           rw [← hw2] at hst1 x1 x2 x3
           clear hw2
           have B2 := Lib.hid (below_step B1.out x1)
           have S2 := Lib.hid x3
           have M0 := Lib.hid ((x1.block w.heap.size (by have := S1.out; omega)).trans K0.out)
           have M1 := Lib.hid ((x1.block (w.heap.size + 1) (by have := S1.out; omega)).trans K1.out)
           have M2 := Lib.hid ((x1.block (w.heap.size + 2) (by have := S1.out; omega)).trans K2.out)
           have M3 := Lib.hid x2
           clear x1 x2 x3
           have c28 := (blk_cell M0.out 28).trans (FV_28 ws HX.out _ _ _)
           have hne : ¬ w1.heap.size = w.heap.size + 1 := by have := S1.out; omega
           have hne' : ¬ w.heap.size + 1 = w1.heap.size := by have := S1.out; omega)
        | (go_at_call 37; with_reducible refine (impl_letter_is p.f0 true _ LA.out).mono ?_; rintro e w' ⟨rfl, rfl⟩)
        | (go_at_call 37; with_reducible refine (impl_letter_is p.f1 true _ LB.out).mono ?_; rintro e w' ⟨rfl, rfl⟩)
        | (go_at_call 39
           with_reducible refine (cloneC A c l _ (Kd.C_below HR.out B2.out) HC.out HL.out).mono ?_
           rintro e w3 ⟨B, d, rfl, hR, hb⟩
           have B3 := Lib.hid (below_step B2.out hb)
           have R3 := Lib.hid hR
           have S3 := Lib.hid (show w2.heap.size ≤ w3.heap.size from hb.size)
           have N1 := Lib.hid ((hb.block (w.heap.size + 1) (by have := S1.out; have := S2.out; omega)).trans M1.out)
           have N2 := Lib.hid ((hb.block (w.heap.size + 2) (by have := S1.out; have := S2.out; omega)).trans M2.out)
           have N3 := Lib.hid ((hb.block w1.heap.size S2.out).trans M3.out)
           clear hR hb c28 hst1 q1)
        | (go_at_call 38
           with_reducible refine (delete_func_pair 40 #[.pointer (some ⟨w.heap.size + 1, 0, none⟩)] (keyB p) l B d w2.heap.size (fun _ => True) w3 EG.out R3.out S3.out HL.out (fun x hx W hW => closure44' p x (w.heap.size + 1) W ((hW.block _ (by have := S1.out; have := S2.out; omega)).trans N1.out))).mono ?_
           rintro e w4 ⟨he, hR, hb⟩
           rw [HLF.out] at he hR
           subst he
           have B4 := Lib.hid (B3.out.trans (below_weak hb (by have := S1.out; have := S2.out; omega)))
           have S4 := Lib.hid (show w2.heap.size ≤ w4.heap.size from Nat.le_trans S3.out hb.size)
           have O1 := Lib.hid ((hb.block (w.heap.size + 1) (by have := S1.out; have := S2.out; omega)).trans N1.out)
           have O2 := Lib.hid ((hb.block (w.heap.size + 2) (by have := S1.out; have := S2.out; omega)).trans N2.out)
           have O3 := Lib.hid ((hb.block w1.heap.size S2.out).trans N3.out)
           have g28 := (blk_cell O3.out 28).trans (FV_28 ws HX.out _ _ _)
           have fz28 := blk_frozen O3.out 28
           have d0 : w4.cell? ⟨w.heap.size + 1, 0, none⟩ = some (.int .u8 p.f0) := (blk_cell O1.out 0).trans rfl
           have d1 : w4.cell? ⟨w.heap.size + 1, 1, none⟩ = some (.int .u8 p.f1) := (blk_cell O1.out 1).trans rfl
           have d2 : w4.cell? ⟨w.heap.size + 1, 2, none⟩ = some (.int .i8 p.f2) := (blk_cell O1.out 2).trans rfl
           have RR := Lib.hid (Kd.R_lower (Kd.R_mono (Kd.R_bound hR) (fun k hk => show w1.heap.size < k by have h1 := hk.2.1; have h2 := S2.out; omega)) (show w.heap.size ≤ _ by have := S1.out; have := S2.out; omega))
           have R5 := Lib.hid (Kd.R_far RR.out (p := ⟨w1.heap.size, 28, none⟩) (fun k hk => by show k ≠ w1.heap.size; omega) (.slice B l2.length d))
           have B5 := Lib.hid (show Below w.heap.size w (w4.setCell ⟨w1.heap.size, 28, none⟩ (.slice B l2.length d)) from below_set B4.out (by have := S1.out; omega))
           have Q2 := Lib.hid (blk_far (p := ⟨w1.heap.size, 28, none⟩) O2.out (by show w.heap.size + 2 ≠ w1.heap.size; have := S1.out; omega) (.slice B l2.length d))
           have Q3 := Lib.hid (blk_put O3.out 28 (.slice B l2.length d) (FV_set28 ws HX.out sp gp _ _))
           have S5 := Lib.hid (show w1.heap.size < (w4.setCell ⟨w1.heap.size, 28, none⟩ (.slice B l2.length d)).heap.size by have := S4.out; have := S2.out; simp; omega)
           clear hR hb)
        | ((with_reducible refine gate_builtin (b := .append) (xs := #[.tmp 35, .tmp 37]) rfl ?_); at_builtin; refine Kd.R_append k33 (w0 := w) w.heap.size rfl (.tmp 35) (.tmp 37) 26 33 (.agg #[.int .u8 0, .int .u8 0, .int .i8 0]) 3 rfl Tryz.underlying26 info33' rfl (by decide) (by omega) (.slice B l2.length d) l2 p [.int .u8 p.f0, .int .u8 p.f1, .int .i8 p.f2] (fun k => w1.heap.size < k) (fun _ => False) ?hS ?hX ?aP (fun _ hk => hk.elim) ?aF ?aO ?aB ?aS ?aL ?_; (case hS => rfl); (case hX => first | rfl | (go_simp; done) | (simp [World.alloc]; done) | (go_simp; rfl)); (case aP => exact k33_mkM _ _ _ _); (case aF => exact fun k hk => Nat.lt_of_lt_of_le S5.out hk); (case aO => exact R5.out); (case aB => exact B5.out); (case aS => exact B5.out.size); (case aL => have := HL2.out; omega); intro v2 w6 ho hb hg hat
           rw [HL3.out] at ho
           have NB := Lib.hid (show ∀ k, k ≤ w1.heap.size → (Value.slice B l2.length d).ownBlock ≠ some k from fun k hk he => by have := R5.out.1 k he; omega)
           have B6 := Lib.hid hb
           have P2 := Lib.hid ((hg.block (w.heap.size + 2) (by have := S1.out; have := S5.out; omega) (fun he => NB.out (w.heap.size + 2) (by have := S1.out; omega) he.symm)).trans Q2.out)
           have P3 := Lib.hid ((hg.block w1.heap.size S5.out (fun he => NB.out w1.heap.size (Nat.le_refl _) he.symm)).trans Q3.out)
           have S6 := Lib.hid (show w1.heap.size < w6.heap.size from Nat.lt_of_lt_of_le S5.out hg.size)
           obtain ⟨g2, d2', ev, _, _, _⟩ := Kd.R_form ho (by have := HN3.out; rw [← HL3.out, List.length_append, List.length_singleton]; omega)
           rw [HN3.out] at ev
           subst ev
           have g28' := (blk_cell P3.out 28).trans (FV_28 ws HX.out _ _ _)
           have fz28' := blk_frozen P3.out 28
           have GG := Lib.hid (show w1.heap.size < g2 from ho.1 g2 rfl)
           have R7 := Lib.hid (Kd.R_far ho (p := ⟨w1.heap.size, 28, none⟩) (fun k hk => by show k ≠ w1.heap.size; omega) (.slice (some ⟨g2, 0, none⟩) lp.length d2'))
           have B7 := Lib.hid (below_set (j := 28) (v := .slice (some ⟨g2, 0, none⟩) lp.length d2') B6.out (show w.heap.size ≤ w1.heap.size by have := S1.out; omega))
           have T2 := Lib.hid (blk_far (p := ⟨w1.heap.size, 28, none⟩) P2.out (by show w.heap.size + 2 ≠ w1.heap.size; have := S1.out; omega) (.slice (some ⟨g2, 0, none⟩) lp.length d2'))
           have T3 := Lib.hid (blk_put P3.out 28 (.slice (some ⟨g2, 0, none⟩) lp.length d2') (FV_set28 ws HX.out sp gp _ _))
           clear ho hb hg hat d0 d1 d2 g28 fz28)
        | (go_at_call 42
           with_reducible refine (sortPC' g2 d2' lp.length l3 HN3.out w.heap.size (fun k => w1.heap.size < k) _ R7.out (by have := HN3.out; have := HLP.out; omega)).mono ?_
           rintro e w8 ⟨rfl, l4, hp4, hs4, hR, hg⟩
           obtain rfl := HPS.out l4 hp4 hs4
           have B8 := Lib.hid (B7.out.trans (below_of_grown hg (show w.heap.size ≤ g2 by have := S1.out; have := GG.out; omega) B7.out.size))
           have U2 := Lib.hid ((hg.block (w.heap.size + 2) (by have := S1.out; have := S6.out; simp; omega) (fun he => by have := GG.out; have := S1.out; injection he with he; omega)).trans T2.out)
           have U3 := Lib.hid ((hg.block w1.heap.size (by have := S6.out; simp; omega) (fun he => by have := GG.out; injection he with he; omega)).trans T3.out)
           have R8 := Lib.hid hR
           have S8 := Lib.hid (show w1.heap.size < w8.heap.size from Nat.lt_of_lt_of_le S6.out (by have := hg.size; simpa using this))
           clear hR hg hp4 hs4 g28' fz28'
           have q8 := loadF U3.out HX.out HM.out)
        | (go_at_call 43
           with_reducible refine (isFaceC ws HX.out sp gp (some ⟨g2, 0, none⟩) d2' lp _ (Kd.R_reads' R8.out).2.2 (Kd.R_reads' R8.out).2.1 (by have := HLP.out; omega) HF2.out).mono ?_
           rintro e w9 ⟨rfl, hb⟩
           rw [EB.out]
           have B9 := Lib.hid (below_step B8.out hb)
           have V2 := Lib.hid ((hb.block (w.heap.size + 2) (by have := S1.out; have := S8.out;  omega)).trans U2.out)
           have V3 := Lib.hid ((hb.block w1.heap.size (by have := S8.out;  omega)).trans U3.out)
           have R9 := Lib.hid (Kd.R_below R8.out hb)
           clear hb
           have h28 := (blk_cell V3.out 28).trans (FV_28 ws HX.out _ _ _)
           have hst : (storeCells ⟨w.heap.size + 2, 0, none⟩ ZF.toList 0).run Tryz.prog w9 = .ok () (w9.setRow (w.heap.size + 2) ZF) := storeF V2.out Z26_len Z26_len
           have PE := Lib.hid (setRow_heap w9 (w.heap.size + 2) _ ZF U (0, 0) V2.out)))
      refine bodyPost_ret (results_face rfl _ _ (w.heap.size + 2) U Z26 Z26_len 0 0 (.slice none 0 0) rfl PE.out) rfl ?_
      exact ⟨none, 0, rfl, Kd.R_nil _ _ _ _ _, below_setRow B9.out (by omega) _⟩
    | true =>
    have EH2 := Lib.hid ((if_pos rfl).symm.trans EH.out)
    clear EH
    by_cases hle : (lp.length : Int) ≤ 12
    · obtain ⟨rfl, rfl⟩ := Prod.mk.inj ((if_pos hle).symm.trans EH2.out)
      clear EH2
      have hgt : ¬ (12 < (lp.length : Int)) := by omega
      have hgt2 : decide ((lp.length : Int) > 12) = false := decide_eq_false (by omega)
      clear hle
      go_wp2_with (first
        | (go_at_call 17
           with_reducible refine (implValidC ws HX.out sp gp A c l _ (Kd.C_below HR.out HB.out) HC.out HL.out HF.out true EV.out).mono ?_
           rintro e w1 ⟨rfl, hb⟩
           have B1 := Lib.hid (below_step HB.out hb)
           have S1 := Lib.hid (show w.heap.size + 3 ≤ w1.heap.size from HS3.out ▸ hb.size)
           have K0 := Lib.hid ((hb.block w.heap.size (by rw [HS3.out]; omega)).trans H3.out.1)
           have K1 := Lib.hid ((hb.block (w.heap.size + 1) (by rw [HS3.out]; omega)).trans H3.out.2.1)
           have K2 := Lib.hid ((hb.block (w.heap.size + 2) (by rw [HS3.out]; omega)).trans H3.out.2.2)
           clear hb q0
           have d0 : w1.cell? ⟨w.heap.size + 1, 0, none⟩ = some (.int .u8 p.f0) := (blk_cell K1.out 0).trans rfl
           have d1 : w1.cell? ⟨w.heap.size + 1, 1, none⟩ = some (.int .u8 p.f1) := (blk_cell K1.out 1).trans rfl
           have q1 := loadF K0.out HX.out HM.out
           obtain ⟨x1, x2, x3⟩ := boxed w1 U ws sp gp (.slice A l.length c)
           have hst1 := store_new w1 U ws HX.out sp gp A l.length c
           obtain ⟨w2, hw2⟩ : ∃ w2, w2 = (w1.alloc (.cells ZF U)).setRow w1.heap.size (FV ws sp gp (.slice A l.length c)) := ⟨_, rfl⟩
           rw [← hw2] at hst1 x1 x2 x3
           clear hw2
           have B2 := Lib.hid (below_step B1.out x1)
           have S2 := Lib.hid x3
           have M0 := Lib.hid ((x1.block w.heap.size (by have := S1.out; omega)).trans K0.out)
           have M1 := Lib.hid ((x1.block (w.heap.size + 1) (by have := S1.out; omega)).trans K1.out)
           have M2 := Lib.hid ((x1.block (w.heap.size + 2) (by have := S1.out; omega)).trans K2.out)
           have M3 := Lib.hid x2
           clear x1 x2 x3
           have c28 := (blk_cell M0.out 28).trans (FV_28 ws HX.out _ _ _)
           have hne : ¬ w1.heap.size = w.heap.size + 1 := by have := S1.out; omega
           have hne' : ¬ w.heap.size + 1 = w1.heap.size := by have := S1.out; omega)
        | (go_at_call 37; with_reducible refine (impl_letter_is p.f0 true _ LA.out).mono ?_; rintro e w' ⟨rfl, rfl⟩)
        | (go_at_call 37; with_reducible refine (impl_letter_is p.f1 true _ LB.out).mono ?_; rintro e w' ⟨rfl, rfl⟩)
        | (go_at_call 39
           with_reducible refine (cloneC A c l _ (Kd.C_below HR.out B2.out) HC.out HL.out).mono ?_
           rintro e w3 ⟨B, d, rfl, hR, hb⟩
           have B3 := Lib.hid (below_step B2.out hb)
           have R3 := Lib.hid hR
           have S3 := Lib.hid (show w2.heap.size ≤ w3.heap.size from hb.size)
           have N1 := Lib.hid ((hb.block (w.heap.size + 1) (by have := S1.out; have := S2.out; omega)).trans M1.out)
           have N2 := Lib.hid ((hb.block (w.heap.size + 2) (by have := S1.out; have := S2.out; omega)).trans M2.out)
           have N3 := Lib.hid ((hb.block w1.heap.size S2.out).trans M3.out)
           clear hR hb c28 hst1 q1)
        | (go_at_call 38
           with_reducible refine (delete_func_pair 40 #[.pointer (some ⟨w.heap.size + 1, 0, none⟩)] (keyB p) l B d w2.heap.size (fun _ => True) w3 EG.out R3.out S3.out HL.out (fun x hx W hW => closure44' p x (w.heap.size + 1) W ((hW.block _ (by have := S1.out; have := S2.out; omega)).trans N1.out))).mono ?_
           rintro e w4 ⟨he, hR, hb⟩
           rw [HLF.out] at he hR
           subst he
           have B4 := Lib.hid (B3.out.trans (below_weak hb (by have := S1.out; have := S2.out; omega)))
           have S4 := Lib.hid (show w2.heap.size ≤ w4.heap.size from Nat.le_trans S3.out hb.size)
           have O1 := Lib.hid ((hb.block (w.heap.size + 1) (by have := S1.out; have := S2.out; omega)).trans N1.out)
           have O2 := Lib.hid ((hb.block (w.heap.size + 2) (by have := S1.out; have := S2.out; omega)).trans N2.out)
           have O3 := Lib.hid ((hb.block w1.heap.size S2.out).trans N3.out)
           have g28 := (blk_cell O3.out 28).trans (FV_28 ws HX.out _ _ _)
           have fz28 := blk_frozen O3.out 28
           have d0 : w4.cell? ⟨w.heap.size + 1, 0, none⟩ = some (.int .u8 p.f0) := (blk_cell O1.out 0).trans rfl
           have d1 : w4.cell? ⟨w.heap.size + 1, 1, none⟩ = some (.int .u8 p.f1) := (blk_cell O1.out 1).trans rfl
           have d2 : w4.cell? ⟨w.heap.size + 1, 2, none⟩ = some (.int .i8 p.f2) := (blk_cell O1.out 2).trans rfl
           have RR := Lib.hid (Kd.R_lower (Kd.R_mono (Kd.R_bound hR) (fun k hk => show w1.heap.size < k by have h1 := hk.2.1; have h2 := S2.out; omega)) (show w.heap.size ≤ _ by have := S1.out; have := S2.out; omega))
           have R5 := Lib.hid (Kd.R_far RR.out (p := ⟨w1.heap.size, 28, none⟩) (fun k hk => by show k ≠ w1.heap.size; omega) (.slice B l2.length d))
           have B5 := Lib.hid (show Below w.heap.size w (w4.setCell ⟨w1.heap.size, 28, none⟩ (.slice B l2.length d)) from below_set B4.out (by have := S1.out; omega))
           have Q2 := Lib.hid (blk_far (p := ⟨w1.heap.size, 28, none⟩) O2.out (by show w.heap.size + 2 ≠ w1.heap.size; have := S1.out; omega) (.slice B l2.length d))
           have Q3 := Lib.hid (blk_put O3.out 28 (.slice B l2.length d) (FV_set28 ws HX.out sp gp _ _))
           have S5 := Lib.hid (show w1.heap.size < (w4.setCell ⟨w1.heap.size, 28, none⟩ (.slice B l2.length d)).heap.size by have := S4.out; have := S2.out; simp; omega)
           clear hR hb)
        | ((with_reducible refine gate_builtin (b := .append) (xs := #[.tmp 35, .tmp 37]) rfl ?_); at_builtin; refine Kd.R_append k33 (w0 := w) w.heap.size rfl (.tmp 35) (.tmp 37) 26 33 (.agg #[.int .u8 0, .int .u8 0, .int .i8 0]) 3 rfl Tryz.underlying26 info33' rfl (by decide) (by omega) (.slice B l2.length d) l2 p [.int .u8 p.f0, .int .u8 p.f1, .int .i8 p.f2] (fun k => w1.heap.size < k) (fun _ => False) ?hS ?hX ?aP (fun _ hk => hk.elim) ?aF ?aO ?aB ?aS ?aL ?_; (case hS => rfl); (case hX => first | rfl | (go_simp; done) | (simp [World.alloc]; done) | (go_simp; rfl)); (case aP => exact k33_mkM _ _ _ _); (case aF => exact fun k hk => Nat.lt_of_lt_of_le S5.out hk); (case aO => exact R5.out); (case aB => exact B5.out); (case aS => exact B5.out.size); (case aL => have := HL2.out; omega); intro v2 w6 ho hb hg hat
           rw [HL3.out] at ho
           have NB := Lib.hid (show ∀ k, k ≤ w1.heap.size → (Value.slice B l2.length d).ownBlock ≠ some k from fun k hk he => by have := R5.out.1 k he; omega)
           have B6 := Lib.hid hb
           have P2 := Lib.hid ((hg.block (w.heap.size + 2) (by have := S1.out; have := S5.out; omega) (fun he => NB.out (w.heap.size + 2) (by have := S1.out; omega) he.symm)).trans Q2.out)
           have P3 := Lib.hid ((hg.block w1.heap.size S5.out (fun he => NB.out w1.heap.size (Nat.le_refl _) he.symm)).trans Q3.out)
           have S6 := Lib.hid (show w1.heap.size < w6.heap.size from Nat.lt_of_lt_of_le S5.out hg.size)
           obtain ⟨g2, d2', ev, _, _, _⟩ := Kd.R_form ho (by have := HN3.out; rw [← HL3.out, List.length_append, List.length_singleton]; omega)
           rw [HN3.out] at ev
           subst ev
           have g28' := (blk_cell P3.out 28).trans (FV_28 ws HX.out _ _ _)
           have fz28' := blk_frozen P3.out 28
           have GG := Lib.hid (show w1.heap.size < g2 from ho.1 g2 rfl)
           have R7 := Lib.hid (Kd.R_far ho (p := ⟨w1.heap.size, 28, none⟩) (fun k hk => by show k ≠ w1.heap.size; omega) (.slice (some ⟨g2, 0, none⟩) lp.length d2'))
           have B7 := Lib.hid (below_set (j := 28) (v := .slice (some ⟨g2, 0, none⟩) lp.length d2') B6.out (show w.heap.size ≤ w1.heap.size by have := S1.out; omega))
           have T2 := Lib.hid (blk_far (p := ⟨w1.heap.size, 28, none⟩) P2.out (by show w.heap.size + 2 ≠ w1.heap.size; have := S1.out; omega) (.slice (some ⟨g2, 0, none⟩) lp.length d2'))
           have T3 := Lib.hid (blk_put P3.out 28 (.slice (some ⟨g2, 0, none⟩) lp.length d2') (FV_set28 ws HX.out sp gp _ _))
           clear ho hb hg hat d0 d1 d2 g28 fz28)
        | (go_at_call 42
           with_reducible refine (sortPC' g2 d2' lp.length l3 HN3.out w.heap.size (fun k => w1.heap.size < k) _ R7.out (by have := HN3.out; have := HLP.out; omega)).mono ?_
           rintro e w8 ⟨rfl, l4, hp4, hs4, hR, hg⟩
           obtain rfl := HPS.out l4 hp4 hs4
           have B8 := Lib.hid (B7.out.trans (below_of_grown hg (show w.heap.size ≤ g2 by have := S1.out; have := GG.out; omega) B7.out.size))
           have U2 := Lib.hid ((hg.block (w.heap.size + 2) (by have := S1.out; have := S6.out; simp; omega) (fun he => by have := GG.out; have := S1.out; injection he with he; omega)).trans T2.out)
           have U3 := Lib.hid ((hg.block w1.heap.size (by have := S6.out; simp; omega) (fun he => by have := GG.out; injection he with he; omega)).trans T3.out)
           have R8 := Lib.hid hR
           have S8 := Lib.hid (show w1.heap.size < w8.heap.size from Nat.lt_of_lt_of_le S6.out (by have := hg.size; simpa using this))
           clear hR hg hp4 hs4 g28' fz28'
           have q8 := loadF U3.out HX.out HM.out)
        | (go_at_call 43
           with_reducible refine (isFaceC ws HX.out sp gp (some ⟨g2, 0, none⟩) d2' lp _ (Kd.R_reads' R8.out).2.2 (Kd.R_reads' R8.out).2.1 (by have := HLP.out; omega) HF2.out).mono ?_
           rintro e w9 ⟨rfl, hb⟩
           rw [EB.out]
           have B9 := Lib.hid (below_step B8.out hb)
           have V2 := Lib.hid ((hb.block (w.heap.size + 2) (by have := S1.out; have := S8.out;  omega)).trans U2.out)
           have V3 := Lib.hid ((hb.block w1.heap.size (by have := S8.out;  omega)).trans U3.out)
           have R9 := Lib.hid (Kd.R_below R8.out hb)
           clear hb
           have h28 := (blk_cell V3.out 28).trans (FV_28 ws HX.out _ _ _)
           have q9 := loadF V3.out HX.out HM.out
           have hst : (storeCells ⟨w.heap.size + 2, 0, none⟩ (FV ws sp gp (.slice (some ⟨g2, 0, none⟩) lp.length d2')).toList 0).run Tryz.prog w9 = .ok () (w9.setRow (w.heap.size + 2) (FV ws sp gp (.slice (some ⟨g2, 0, none⟩) lp.length d2'))) := storeF V2.out Z26_len HX.out
           have PE := Lib.hid (setRow_heap w9 (w.heap.size + 2) _ (FV ws sp gp (.slice (some ⟨g2, 0, none⟩) lp.length d2')) U (0, 0) V2.out)))
      refine bodyPost_ret (results_face rfl _ _ (w.heap.size + 2) U ws HX.out sp gp (.slice (some ⟨g2, 0, none⟩) lp.length d2') rfl PE.out) rfl ?_
      refine ⟨(some ⟨g2, 0, none⟩), d2', rfl, Kd.R_mono (Kd.R_step R9.out (fun k hk _ => setRow_other _ _ _ _ ?_)) (fun _ _ => trivial), below_setRow B9.out (by omega) _⟩
      have := S1.out
      omega
    · obtain ⟨rfl, rfl⟩ := Prod.mk.inj ((if_neg hle).symm.trans EH2.out)
      clear EH2
      have hgt : 12 < (lp.length : Int) := by omega
      have hgt2 : decide ((lp.length : Int) > 12) = true := decide_eq_true (by omega)
      clear hle
      go_wp2_with (first
        | (go_at_call 17
           with_reducible refine (implValidC ws HX.out sp gp A c l _ (Kd.C_below HR.out HB.out) HC.out HL.out HF.out true EV.out).mono ?_
           rintro e w1 ⟨rfl, hb⟩
           have B1 := Lib.hid (below_step HB.out hb)
           have S1 := Lib.hid (show w.heap.size + 3 ≤ w1.heap.size from HS3.out ▸ hb.size)
           have K0 := Lib.hid ((hb.block w.heap.size (by rw [HS3.out]; omega)).trans H3.out.1)
           have K1 := Lib.hid ((hb.block (w.heap.size + 1) (by rw [HS3.out]; omega)).trans H3.out.2.1)
           have K2 := Lib.hid ((hb.block (w.heap.size + 2) (by rw [HS3.out]; omega)).trans H3.out.2.2)
           clear hb q0
           have d0 : w1.cell? ⟨w.heap.size + 1, 0, none⟩ = some (.int .u8 p.f0) := (blk_cell K1.out 0).trans rfl
           have d1 : w1.cell? ⟨w.heap.size + 1, 1, none⟩ = some (.int .u8 p.f1) := (blk_cell K1.out 1).trans rfl
           have q1 := loadF K0.out HX.out HM.out
           obtain ⟨x1, x2, x3⟩ := boxed w1 U ws sp gp (.slice A l.length c)
           have hst1 := store_new w1 U ws HX.out sp gp A l.length c
           obtain ⟨w2, hw2⟩ : ∃ w2, w2 = (w1.alloc (.cells ZF U)).setRow w1.heap.size (FV ws sp gp (.slice A l.length c)) := ⟨_, rfl⟩
           rw [← hw2] at hst1 x1 x2 x3
           clear hw2
           have B2 := Lib.hid (below_step B1.out x1)
           have S2 := Lib.hid x3
           have M0 := Lib.hid ((x1.block w.heap.size (by have := S1.out; omega)).trans K0.out)
           have M1 := Lib.hid ((x1.block (w.heap.size + 1) (by have := S1.out; omega)).trans K1.out)
           have M2 := Lib.hid ((x1.block (w.heap.size + 2) (by have := S1.out; omega)).trans K2.out)
           have M3 := Lib.hid x2
           clear x1 x2 x3
           have c28 := (blk_cell M0.out 28).trans (FV_28 ws HX.out _ _ _)
           have hne : ¬ w1.heap.size = w.heap.size + 1 := by have := S1.out; omega
           have hne' : ¬ w.heap.size + 1 = w1.heap.size := by have := S1.out; omega)
        | (go_at_call 37; with_reducible refine (impl_letter_is p.f0 true _ LA.out).mono ?_; rintro e w' ⟨rfl, rfl⟩)
        | (go_at_call 37; with_reducible refine (impl_letter_is p.f1 true _ LB.out).mono ?_; rintro e w' ⟨rfl, rfl⟩)
        | (go_at_call 39
           with_reducible refine (cloneC A c l _ (Kd.C_below HR.out B2.out) HC.out HL.out).mono ?_
           rintro e w3 ⟨B, d, rfl, hR, hb⟩
           have B3 := Lib.hid (below_step B2.out hb)
           have R3 := Lib.hid hR
           have S3 := Lib.hid (show w2.heap.size ≤ w3.heap.size from hb.size)
           have N1 := Lib.hid ((hb.block (w.heap.size + 1) (by have := S1.out; have := S2.out; omega)).trans M1.out)
           have N2 := Lib.hid ((hb.block (w.heap.size + 2) (by have := S1.out; have := S2.out; omega)).trans M2.out)
           have N3 := Lib.hid ((hb.block w1.heap.size S2.out).trans M3.out)
           clear hR hb c28 hst1 q1)
        | (go_at_call 38
           with_reducible refine (delete_func_pair 40 #[.pointer (some ⟨w.heap.size + 1, 0, none⟩)] (keyB p) l B d w2.heap.size (fun _ => True) w3 EG.out R3.out S3.out HL.out (fun x hx W hW => closure44' p x (w.heap.size + 1) W ((hW.block _ (by have := S1.out; have := S2.out; omega)).trans N1.out))).mono ?_
           rintro e w4 ⟨he, hR, hb⟩
           rw [HLF.out] at he hR
           subst he
           have B4 := Lib.hid (B3.out.trans (below_weak hb (by have := S1.out; have := S2.out; omega)))
           have S4 := Lib.hid (show w2.heap.size ≤ w4.heap.size from Nat.le_trans S3.out hb.size)
           have O1 := Lib.hid ((hb.block (w.heap.size + 1) (by have := S1.out; have := S2.out; omega)).trans N1.out)
           have O2 := Lib.hid ((hb.block (w.heap.size + 2) (by have := S1.out; have := S2.out; omega)).trans N2.out)
           have O3 := Lib.hid ((hb.block w1.heap.size S2.out).trans N3.out)
           have g28 := (blk_cell O3.out 28).trans (FV_28 ws HX.out _ _ _)
           have fz28 := blk_frozen O3.out 28
           have d0 : w4.cell? ⟨w.heap.size + 1, 0, none⟩ = some (.int .u8 p.f0) := (blk_cell O1.out 0).trans rfl
           have d1 : w4.cell? ⟨w.heap.size + 1, 1, none⟩ = some (.int .u8 p.f1) := (blk_cell O1.out 1).trans rfl
           have d2 : w4.cell? ⟨w.heap.size + 1, 2, none⟩ = some (.int .i8 p.f2) := (blk_cell O1.out 2).trans rfl
           have RR := Lib.hid (Kd.R_lower (Kd.R_mono (Kd.R_bound hR) (fun k hk => show w1.heap.size < k by have h1 := hk.2.1; have h2 := S2.out; omega)) (show w.heap.size ≤ _ by have := S1.out; have := S2.out; omega))
           have R5 := Lib.hid (Kd.R_far RR.out (p := ⟨w1.heap.size, 28, none⟩) (fun k hk => by show k ≠ w1.heap.size; omega) (.slice B l2.length d))
           have B5 := Lib.hid (show Below w.heap.size w (w4.setCell ⟨w1.heap.size, 28, none⟩ (.slice B l2.length d)) from below_set B4.out (by have := S1.out; omega))
           have Q2 := Lib.hid (blk_far (p := ⟨w1.heap.size, 28, none⟩) O2.out (by show w.heap.size + 2 ≠ w1.heap.size; have := S1.out; omega) (.slice B l2.length d))
           have Q3 := Lib.hid (blk_put O3.out 28 (.slice B l2.length d) (FV_set28 ws HX.out sp gp _ _))
           have S5 := Lib.hid (show w1.heap.size < (w4.setCell ⟨w1.heap.size, 28, none⟩ (.slice B l2.length d)).heap.size by have := S4.out; have := S2.out; simp; omega)
           clear hR hb)
        | ((with_reducible refine gate_builtin (b := .append) (xs := #[.tmp 35, .tmp 37]) rfl ?_); at_builtin; refine Kd.R_append k33 (w0 := w) w.heap.size rfl (.tmp 35) (.tmp 37) 26 33 (.agg #[.int .u8 0, .int .u8 0, .int .i8 0]) 3 rfl Tryz.underlying26 info33' rfl (by decide) (by omega) (.slice B l2.length d) l2 p [.int .u8 p.f0, .int .u8 p.f1, .int .i8 p.f2] (fun k => w1.heap.size < k) (fun _ => False) ?hS ?hX ?aP (fun _ hk => hk.elim) ?aF ?aO ?aB ?aS ?aL ?_; (case hS => rfl); (case hX => first | rfl | (go_simp; done) | (simp [World.alloc]; done) | (go_simp; rfl)); (case aP => exact k33_mkM _ _ _ _); (case aF => exact fun k hk => Nat.lt_of_lt_of_le S5.out hk); (case aO => exact R5.out); (case aB => exact B5.out); (case aS => exact B5.out.size); (case aL => have := HL2.out; omega); intro v2 w6 ho hb hg hat
           rw [HL3.out] at ho
           have NB := Lib.hid (show ∀ k, k ≤ w1.heap.size → (Value.slice B l2.length d).ownBlock ≠ some k from fun k hk he => by have := R5.out.1 k he; omega)
           have B6 := Lib.hid hb
           have P2 := Lib.hid ((hg.block (w.heap.size + 2) (by have := S1.out; have := S5.out; omega) (fun he => NB.out (w.heap.size + 2) (by have := S1.out; omega) he.symm)).trans Q2.out)
           have P3 := Lib.hid ((hg.block w1.heap.size S5.out (fun he => NB.out w1.heap.size (Nat.le_refl _) he.symm)).trans Q3.out)
           have S6 := Lib.hid (show w1.heap.size < w6.heap.size from Nat.lt_of_lt_of_le S5.out hg.size)
           obtain ⟨g2, d2', ev, _, _, _⟩ := Kd.R_form ho (by have := HN3.out; rw [← HL3.out, List.length_append, List.length_singleton]; omega)
           rw [HN3.out] at ev
           subst ev
           have g28' := (blk_cell P3.out 28).trans (FV_28 ws HX.out _ _ _)
           have fz28' := blk_frozen P3.out 28
           have GG := Lib.hid (show w1.heap.size < g2 from ho.1 g2 rfl)
           have R7 := Lib.hid (Kd.R_far ho (p := ⟨w1.heap.size, 28, none⟩) (fun k hk => by show k ≠ w1.heap.size; omega) (.slice (some ⟨g2, 0, none⟩) lp.length d2'))
           have B7 := Lib.hid (below_set (j := 28) (v := .slice (some ⟨g2, 0, none⟩) lp.length d2') B6.out (show w.heap.size ≤ w1.heap.size by have := S1.out; omega))
           have T2 := Lib.hid (blk_far (p := ⟨w1.heap.size, 28, none⟩) P2.out (by show w.heap.size + 2 ≠ w1.heap.size; have := S1.out; omega) (.slice (some ⟨g2, 0, none⟩) lp.length d2'))
           have T3 := Lib.hid (blk_put P3.out 28 (.slice (some ⟨g2, 0, none⟩) lp.length d2') (FV_set28 ws HX.out sp gp _ _))
           clear ho hb hg hat d0 d1 d2 g28 fz28)
        | (go_at_call 42
           with_reducible refine (sortPC' g2 d2' lp.length l3 HN3.out w.heap.size (fun k => w1.heap.size < k) _ R7.out (by have := HN3.out; have := HLP.out; omega)).mono ?_
           rintro e w8 ⟨rfl, l4, hp4, hs4, hR, hg⟩
           obtain rfl := HPS.out l4 hp4 hs4
           have B8 := Lib.hid (B7.out.trans (below_of_grown hg (show w.heap.size ≤ g2 by have := S1.out; have := GG.out; omega) B7.out.size))
           have U2 := Lib.hid ((hg.block (w.heap.size + 2) (by have := S1.out; have := S6.out; simp; omega) (fun he => by have := GG.out; have := S1.out; injection he with he; omega)).trans T2.out)
           have U3 := Lib.hid ((hg.block w1.heap.size (by have := S6.out; simp; omega) (fun he => by have := GG.out; injection he with he; omega)).trans T3.out)
           have R8 := Lib.hid hR
           have S8 := Lib.hid (show w1.heap.size < w8.heap.size from Nat.lt_of_lt_of_le S6.out (by have := hg.size; simpa using this))
           clear hR hg hp4 hs4 g28' fz28'
           have q8 := loadF U3.out HX.out HM.out)
        | (go_at_call 43
           with_reducible refine (isFaceC ws HX.out sp gp (some ⟨g2, 0, none⟩) d2' lp _ (Kd.R_reads' R8.out).2.2 (Kd.R_reads' R8.out).2.1 (by have := HLP.out; omega) HF2.out).mono ?_
           rintro e w9 ⟨rfl, hb⟩
           rw [EB.out]
           have B9 := Lib.hid (below_step B8.out hb)
           have V2 := Lib.hid ((hb.block (w.heap.size + 2) (by have := S1.out; have := S8.out;  omega)).trans U2.out)
           have V3 := Lib.hid ((hb.block w1.heap.size (by have := S8.out;  omega)).trans U3.out)
           have R9 := Lib.hid (Kd.R_below R8.out hb)
           clear hb
           have h28 := (blk_cell V3.out 28).trans (FV_28 ws HX.out _ _ _)
           have hst : (storeCells ⟨w.heap.size + 2, 0, none⟩ ZF.toList 0).run Tryz.prog w9 = .ok () (w9.setRow (w.heap.size + 2) ZF) := storeF V2.out Z26_len Z26_len
           have PE := Lib.hid (setRow_heap w9 (w.heap.size + 2) _ ZF U (0, 0) V2.out)))
      refine bodyPost_ret (results_face rfl _ _ (w.heap.size + 2) U Z26 Z26_len 0 0 (.slice none 0 0) rfl PE.out) rfl ?_
      exact ⟨none, 0, rfl, Kd.R_nil _ _ _ _ _, below_setRow B9.out (by omega) _⟩
end Go.Proofs.YtimkkjkgbbfgbaaGreatDoor.Q
