/- spec.WithPair, by hand. -/
import Derived.Test.YtimkkjkgbbfgbaaGreatDoorQLs
namespace Go.Proofs.YtimkkjkgbbfgbaaGreatDoor.Q
open Go.RowKit Go.Proofs.YtimkkjkgbbfgbaaGreatDoorW.PrintWords Go.Proofs.YtimkkjkgbbfgbaaGreatDoorW.PrintLast Go.Proofs.YtimkkjkgbbfgbaaGreatDoorW.PrintMore
open Go.Proofs.YtimkkjkgbbfgbaaGreatDoor.Pure
set_option linter.unusedVariables false
set_option linter.unusedSimpArgs false

/-- What stands in the boxes of spec.WithPair while it runs. -/
structure SI (FA PA : Array Value) (U : TypeId) (w W : World) : Prop where
  k0 : W.heap[w.heap.size]? = some (.cells FA 28 (0, 0))
  k1 : W.heap[w.heap.size + 1]? = some (.cells PA 33 (0, 0))
  k2 : W.heap[w.heap.size + 2]? = some (.cells ZF U (0, 0))
  b : Below w.heap.size w W
theorem SI.sz {FA PA : Array Value} {U : TypeId} {w W : World} (h : SI FA PA U w W) : w.heap.size + 3 ≤ W.heap.size := by have := blk_lt h.k2; omega
theorem SI.step {FA PA : Array Value} {U : TypeId} {w W W' : World} (h : SI FA PA U w W) (hb : Below W.heap.size W W') : SI FA PA U w W' :=
  ⟨(hb.block _ (blk_lt h.k0)).trans h.k0, (hb.block _ (blk_lt h.k1)).trans h.k1, (hb.block _ (blk_lt h.k2)).trans h.k2, below_step h.b hb⟩
theorem SI.grown {FA PA : Array Value} {U : TypeId} {w W W' : World} {o : Option Nat} (h : SI FA PA U w W) (hg : W.grownBy W' o) (ho : ∀ k, k ≤ w.heap.size + 2 → o ≠ some k) (hb : Below w.heap.size w W') : SI FA PA U w W' :=
  ⟨(hg.block _ (blk_lt h.k0) (fun e => ho w.heap.size (by omega) e.symm)).trans h.k0, (hg.block _ (blk_lt h.k1) (fun e => ho (w.heap.size + 1) (by omega) e.symm)).trans h.k1, (hg.block _ (blk_lt h.k2) (fun e => ho (w.heap.size + 2) (by omega) e.symm)).trans h.k2, hb⟩
theorem keep7b {W w' W0 : World} {a1 a2 a3 a4 a5 a6 a7 : Addr} {v1 v2 v3 v4 v5 v6 v7 : Value} (h : W.cell? a1 = some v1 ∧ W.cell? a2 = some v2 ∧ W.cell? a3 = some v3 ∧ W.cell? a4 = some v4 ∧ W.cell? a5 = some v5 ∧ W.cell? a6 = some v6 ∧ W.cell? a7 = some v7 ∧ RowKit.Hid (Below W0.heap.size W0 W)) (hb : Below W.heap.size W w') :
    w'.cell? a1 = some v1 ∧ w'.cell? a2 = some v2 ∧ w'.cell? a3 = some v3 ∧ w'.cell? a4 = some v4 ∧ w'.cell? a5 = some v5 ∧ w'.cell? a6 = some v6 ∧ w'.cell? a7 = some v7 ∧ RowKit.Hid (Below W0.heap.size W0 w') :=
  ⟨pw_cell_below hb h.1, pw_cell_below hb h.2.1, pw_cell_below hb h.2.2.1, pw_cell_below hb h.2.2.2.1, pw_cell_below hb h.2.2.2.2.1, pw_cell_below hb h.2.2.2.2.2.1, pw_cell_below hb h.2.2.2.2.2.2.1, Lib.hid (below_step h.2.2.2.2.2.2.2.out hb)⟩
theorem heldB7 {W W0 : World} {a1 a2 a3 a4 a5 a6 a7 : Addr} {v1 v2 v3 v4 v5 v6 v7 : Value} (h : W.cell? a1 = some v1 ∧ W.cell? a2 = some v2 ∧ W.cell? a3 = some v3 ∧ W.cell? a4 = some v4 ∧ W.cell? a5 = some v5 ∧ W.cell? a6 = some v6 ∧ W.cell? a7 = some v7 ∧ RowKit.Hid (Below W0.heap.size W0 W)) : Below W0.heap.size W0 W := h.2.2.2.2.2.2.2.out
theorem SI.put {FA FB PA : Array Value} {U : TypeId} {w W : World} {v : Value} (h : SI FA PA U w W) (hs : FA.setIfInBounds 28 v = FB) : SI FB PA U w (W.setCell ⟨w.heap.size, 28, none⟩ v) :=
  ⟨blk_put h.k0 28 v hs, blk_far (p := ⟨w.heap.size, 28, none⟩) h.k1 (by show w.heap.size + 1 ≠ w.heap.size; omega) v, blk_far (p := ⟨w.heap.size, 28, none⟩) h.k2 (by show w.heap.size + 2 ≠ w.heap.size; omega) v, below_set h.b (Nat.le_refl _)⟩
theorem drop_at {l : List S33} {j : Nat} (h : j < l.length) : l.drop j = rd_T33 l (j : Nat) :: l.drop (j + 1) := by
  rw [rd46_get l j h]
  exact List.drop_eq_getElem_cons h

set_option maxHeartbeats 8000000 in
set_option maxRecDepth 100000 in
theorem specWithC (ws : List Int) (hx : ws.length = 26) (sp gp : Int) (A : Option Addr) (c : Nat) (l : List S33) (p : S33) (hp : -128 ≤ p.f2 ∧ p.f2 ≤ 127) (w : World) (hr : Kd.C k33 w A l.length l) (hc : l.length ≤ c) (hl : l.length ≤ 1048576) (hf : Fit ws sp gp l) (r : Face) (code : Int) (h : withR ws sp gp l p = (r, code)) :
    Calls Tryz.prog 11 #[.agg (FV ws sp gp (.slice A l.length c)), .agg #[.int .u8 p.f0, .int .u8 p.f1, .int .i8 p.f2]] w fun e w' => ∃ B d, e = .returned (.tuple #[.agg (FV r.1 r.2.1 r.2.2.1 (.slice B r.2.2.2.length d)), .int .i64 code]) ∧ Kd.R k33 33 w' w.heap.size (fun _ => True) (.slice B r.2.2.2.length d) r.2.2.2 ∧ Below w.heap.size w w' := by
  go_enter Tryz.func11, Tryz.ntmps11
  obtain ⟨M, hM⟩ : ∃ M : Nat, M = 29 := ⟨_, rfl⟩
  obtain ⟨U, hU⟩ : ∃ U : TypeId, U = 28 := ⟨_, rfl⟩
  have huU := fun w => (show (underlying U).run Tryz.prog w = (underlying 28).run Tryz.prog w by rw [hU]).trans (run_underlying (P := Tryz.prog) (w := w) Tryz.underlying28)
  have hzU : ∀ w, (sizeOf U).run Tryz.prog w = .ok M w := fun w => by rw [hM, hU]; exact Tryz.sizeOf28 w
  have haU : ∀ w, (isAgg U).run Tryz.prog w = .ok true w := fun w => by rw [hU]; exact Tryz.isAgg28 w
  have hvU : ∀ w, (zeroValue U).run Tryz.prog w = .ok (.agg ZF) w := fun w => by rw [hU]; exact Tryz.zeroValue28 w
  have e2 : ∀ x, Op.load 28 x = Op.load U x := fun x => by rw [hU]
  have e3 : ∀ x y, Op.store 28 x y = Op.store U x y := fun x y => by rw [hU]
  have e4 : Op.alloc 28 = Op.alloc U := by rw [hU]
  have e5 : ∀ x, Op.build 28 x = Op.build U x := fun x => by rw [hU]
  simp only [e2, e3, e4, e5]
  clear e2 e3 e4 e5
  have hFa : ∀ g v, (FV ws sp g v).size = M := fun g v => by rw [FV_size ws hx, hM]
  have hFz : ZF.size = M := by rw [hM]; rfl
  have HM := Lib.hid hM
  have HX := Lib.hid hx
  have HR := Lib.hid hr
  have HC := Lib.hid hc
  have HL := Lib.hid hl
  have HF := Lib.hid hf
  clear hM hU hx hr hc hl hf
  have H3 := Lib.hid (three_blocks w (.cells (FV ws sp gp (.slice A l.length c)) 28) (.cells #[.int .u8 p.f0, .int .u8 p.f1, .int .i8 p.f2] 33) (.cells ZF U))
  have HB := Lib.hid (below_alloc (below_alloc (below_alloc (Below.refl w.heap.size w) (.cells (FV ws sp gp (.slice A l.length c)) 28)) (.cells #[.int .u8 p.f0, .int .u8 p.f1, .int .i8 p.f2] 33)) (.cells ZF U))
  have HS3 := Lib.hid (show ((((w.alloc (.cells (FV ws sp gp (.slice A l.length c)) 28)).alloc (.cells #[.int .u8 p.f0, .int .u8 p.f1, .int .i8 p.f2] 33)).alloc (.cells ZF U))).heap.size = w.heap.size + 3 by simp)
  have q0 := loadF H3.out.1 HX.out HM.out
  unfold withR at h
  have HP := Lib.hid hp
  clear hp
  cases hv : validB ws sp gp l with
  | false =>
    rw [hv, if_neg (by simp)] at h
    obtain ⟨rfl, rfl⟩ := Prod.mk.inj h
    have EV := Lib.hid hv
    clear hv h
    go_wp2_with (first
      | (go_at_call 44
         with_reducible refine (l01FaceC ws HX.out sp gp A c l w.heap.size _ H3.out.1 (Kd.C_below HR.out HB.out) HC.out HL.out HF.out).mono ?_
         rintro e w1 ⟨rfl, hb⟩
         rw [EV.out]
         have B1 := Lib.hid (below_step HB.out hb)
         have S1 := Lib.hid (show w.heap.size + 3 ≤ w1.heap.size from HS3.out ▸ hb.size)
         have K0 := Lib.hid ((hb.block w.heap.size (by rw [HS3.out]; omega)).trans H3.out.1)
         have K1 := Lib.hid ((hb.block (w.heap.size + 1) (by rw [HS3.out]; omega)).trans H3.out.2.1)
         have K2 := Lib.hid ((hb.block (w.heap.size + 2) (by rw [HS3.out]; omega)).trans H3.out.2.2)
         clear hb q0
         have hst : (storeCells ⟨w.heap.size + 2, 0, none⟩ ZF.toList 0).run Tryz.prog w1 = .ok () (w1.setRow (w.heap.size + 2) ZF) := storeF K2.out Z26_len Z26_len
         have PE := Lib.hid (setRow_heap w1 (w.heap.size + 2) _ ZF U (0, 0) K2.out)))
    refine bodyPost_ret (results_face rfl _ _ (w.heap.size + 2) U Z26 Z26_len 0 0 (.slice none 0 0) rfl PE.out) rfl ?_
    exact ⟨none, 0, rfl, Kd.R_nil _ _ _ _ _, below_setRow B1.out (by omega) _⟩
  | true =>
  rw [hv, if_pos rfl] at h
  obtain ⟨hpr, hl12⟩ := valid_pairs hv
  have HL12 := Lib.hid hl12
  have EV := Lib.hid hv
  clear hv hpr hl12
  cases ha : letB p.f0 with
  | false =>
    rw [ha, Bool.false_and, if_neg (by simp)] at h
    obtain ⟨rfl, rfl⟩ := Prod.mk.inj h
    have LA := Lib.hid ha
    clear ha h
    go_wp2_with (first
      | (go_at_call 44
         with_reducible refine (l01FaceC ws HX.out sp gp A c l w.heap.size _ H3.out.1 (Kd.C_below HR.out HB.out) HC.out HL.out HF.out).mono ?_
         rintro e w1 ⟨rfl, hb⟩
         rw [EV.out]
         have B1 := Lib.hid (below_step HB.out hb)
         have S1 := Lib.hid (show w.heap.size + 3 ≤ w1.heap.size from HS3.out ▸ hb.size)
         have K0 := Lib.hid ((hb.block w.heap.size (by rw [HS3.out]; omega)).trans H3.out.1)
         have K1 := Lib.hid ((hb.block (w.heap.size + 1) (by rw [HS3.out]; omega)).trans H3.out.2.1)
         have K2 := Lib.hid ((hb.block (w.heap.size + 2) (by rw [HS3.out]; omega)).trans H3.out.2.2)
         clear hb q0
         have d0 : w1.cell? ⟨w.heap.size + 1, 0, none⟩ = some (.int .u8 p.f0) := (blk_cell K1.out 0).trans rfl
         have d1 : w1.cell? ⟨w.heap.size + 1, 1, none⟩ = some (.int .u8 p.f1) := (blk_cell K1.out 1).trans rfl
         have hst : (storeCells ⟨w.heap.size + 2, 0, none⟩ ZF.toList 0).run Tryz.prog w1 = .ok () (w1.setRow (w.heap.size + 2) ZF) := storeF K2.out Z26_len Z26_len
         have PE := Lib.hid (setRow_heap w1 (w.heap.size + 2) _ ZF U (0, 0) K2.out))
      | (go_at_call 45; with_reducible refine (spec_letter_is p.f0 false _ LA.out).mono ?_; rintro e w' ⟨rfl, rfl⟩))
    refine bodyPost_ret (results_face rfl _ _ (w.heap.size + 2) U Z26 Z26_len 0 0 (.slice none 0 0) rfl PE.out) rfl ?_
    exact ⟨none, 0, rfl, Kd.R_nil _ _ _ _ _, below_setRow B1.out (by omega) _⟩
  | true =>
  have LA := Lib.hid ha
  cases hb : letB p.f1 with
  | false =>
    rw [ha, hb, Bool.and_false, if_neg (by simp)] at h
    obtain ⟨rfl, rfl⟩ := Prod.mk.inj h
    have LB := Lib.hid hb
    clear ha hb h
    go_wp2_with (first
      | (go_at_call 44
         with_reducible refine (l01FaceC ws HX.out sp gp A c l w.heap.size _ H3.out.1 (Kd.C_below HR.out HB.out) HC.out HL.out HF.out).mono ?_
         rintro e w1 ⟨rfl, hb⟩
         rw [EV.out]
         have B1 := Lib.hid (below_step HB.out hb)
         have S1 := Lib.hid (show w.heap.size + 3 ≤ w1.heap.size from HS3.out ▸ hb.size)
         have K0 := Lib.hid ((hb.block w.heap.size (by rw [HS3.out]; omega)).trans H3.out.1)
         have K1 := Lib.hid ((hb.block (w.heap.size + 1) (by rw [HS3.out]; omega)).trans H3.out.2.1)
         have K2 := Lib.hid ((hb.block (w.heap.size + 2) (by rw [HS3.out]; omega)).trans H3.out.2.2)
         clear hb q0
         have d0 : w1.cell? ⟨w.heap.size + 1, 0, none⟩ = some (.int .u8 p.f0) := (blk_cell K1.out 0).trans rfl
         have d1 : w1.cell? ⟨w.heap.size + 1, 1, none⟩ = some (.int .u8 p.f1) := (blk_cell K1.out 1).trans rfl
         have hst : (storeCells ⟨w.heap.size + 2, 0, none⟩ ZF.toList 0).run Tryz.prog w1 = .ok () (w1.setRow (w.heap.size + 2) ZF) := storeF K2.out Z26_len Z26_len
         have PE := Lib.hid (setRow_heap w1 (w.heap.size + 2) _ ZF U (0, 0) K2.out))
      | (go_at_call 45; with_reducible refine (spec_letter_is p.f0 true _ LA.out).mono ?_; rintro e w' ⟨rfl, rfl⟩)
      | (go_at_call 45; with_reducible refine (spec_letter_is p.f1 false _ LB.out).mono ?_; rintro e w' ⟨rfl, rfl⟩))
    refine bodyPost_ret (results_face rfl _ _ (w.heap.size + 2) U Z26 Z26_len 0 0 (.slice none 0 0) rfl PE.out) rfl ?_
    exact ⟨none, 0, rfl, Kd.R_nil _ _ _ _ _, below_setRow B1.out (by omega) _⟩
  | true =>
  rw [ha, hb, Bool.and_true, if_pos rfl] at h
  have LB := Lib.hid hb
  clear ha hb
  have HF2 := Lib.hid (fit_put HF.out HP.out)
  have HLP := Lib.hid (show (putP p l).length ≤ 13 from by have h1 := putGo_len p l (decide (p.f2 = 0)); have h2 := HL12.out; unfold putP; omega)
  obtain ⟨lp, hlp⟩ : ∃ lp, lp = putP p l := ⟨_, rfl⟩
  rw [← hlp] at h HF2 HLP
  have HPD := Lib.hid hlp
  clear hlp
  obtain ⟨fb, hfb⟩ : ∃ b, faceB ws sp gp lp = b := ⟨_, rfl⟩
  rw [hfb] at h
  have EB := Lib.hid hfb
  have EH := Lib.hid h
  clear hfb h
  go_wp2_with (first
      | (go_at_call 44
         with_reducible refine (l01FaceC ws HX.out sp gp A c l w.heap.size _ H3.out.1 (Kd.C_below HR.out HB.out) HC.out HL.out HF.out).mono ?_
         rintro e w1 ⟨rfl, hb⟩
         rw [EV.out]
         have B1 := Lib.hid (below_step HB.out hb)
         have S1 := Lib.hid (show w.heap.size + 3 ≤ w1.heap.size from HS3.out ▸ hb.size)
         have K0 := Lib.hid ((hb.block w.heap.size (by rw [HS3.out]; omega)).trans H3.out.1)
         have K1 := Lib.hid ((hb.block (w.heap.size + 1) (by rw [HS3.out]; omega)).trans H3.out.2.1)
         have K2 := Lib.hid ((hb.block (w.heap.size + 2) (by rw [HS3.out]; omega)).trans H3.out.2.2)
         clear hb q0
         have d0 : w1.cell? ⟨w.heap.size + 1, 0, none⟩ = some (.int .u8 p.f0) := (blk_cell K1.out 0).trans rfl
         have d1 : w1.cell? ⟨w.heap.size + 1, 1, none⟩ = some (.int .u8 p.f1) := (blk_cell K1.out 1).trans rfl)
      | (go_at_call 45; with_reducible refine (spec_letter_is p.f0 true _ LA.out).mono ?_; rintro e w' ⟨rfl, rfl⟩)
      | (go_at_call 45; with_reducible refine (spec_letter_is p.f1 true _ LB.out).mono ?_; rintro e w' ⟨rfl, rfl⟩)
      | ((with_reducible refine gate_dst (N := 23) rfl ?_); refine Kd.R_lit k33 _ 33 ?hg (N := 23) ?hd (xs := ([] : List S33)) (inner := []) (ok := fun _ => True) (okp := fun _ => True) ?hr ?hp (fun _ hk => hk) trivial (Below.refl _ _) (Nat.le_refl _) (by simp) ?_; (case hd => rfl); (case hg => rfl); (case hr => first | (go_simp; done) | (go_simp; rfl)); (case hp => exact (Reps.none _ _)); intro v0 w7 ho8 hb hg_ hnew_; clear hg_ hnew_
         have I7 := Lib.hid ((SI.mk K0.out K1.out K2.out B1.out : SI (FV ws sp gp (.slice A l.length c)) #[.int .u8 p.f0, .int .u8 p.f1, .int .i8 p.f2] U w w1).step hb)
         have R7 := Lib.hid (Kd.R_lower (Kd.R_mono (Kd.R_bound ho8) (fun k hk => show w.heap.size + 2 < k by have h1 := hk.2.1; have h2 := S1.out; omega)) (show w.heap.size ≤ _ by have := S1.out; omega))
         have d2 : w7.cell? ⟨w.heap.size + 1, 2, none⟩ = some (.int .i8 p.f2) := (blk_cell I7.out.k1 2).trans rfl
         clear ho8 hb d0 d1))
  clear d2 K0 K1 K2 B1 S1
  go_loopw [6, 7, 8] (fun v b i wr => ∃ (j : Nat) (acc : List S33) (dn : Bool), j ≤ l.length ∧ i = .int .i64 j ∧ b = .bool dn ∧ RowKit.Hid (acc ++ putGo p dn (l.drop j) = lp) ∧ RowKit.Hid (Kd.R k33 33 wr w.heap.size (fun k => w.heap.size + 2 < k) v acc) ∧ RowKit.Hid (SI (FV ws sp gp (.slice A l.length c)) #[.int .u8 p.f0, .int .u8 p.f1, .int .i8 p.f2] U w wr)) (fun _ _ i _ => l.length - (intOf i).toNat)
  case atStart => exact ⟨0, [], decide (p.f2 = 0), Nat.zero_le _, rfl, by first | rfl | (simp; done) | (congr 1; simp [beq_eq_decide]; done), Lib.hid (by rw [HPD.out]; rfl), R7, I7⟩
  case round =>
    obtain ⟨j, acc, dn, hj, rfl, rfl, HE0, HV, HI⟩ := hrel
    obtain ⟨B, d, rfl⟩ := Kd.R_slice HV.out
    have hbl : (l.length : Int) ≤ 1048576 := by have := HL.out; omega
    have HLA := Lib.hid (show acc.length ≤ 13 by have h1 := HLP.out; have h2 := congrArg List.length HE0.out; rw [List.length_append] at h2; omega)
    have c28 := (blk_cell HI.out.k0 28).trans (FV_28 ws HX.out _ _ _)
    have d0 : wr.cell? ⟨w.heap.size + 1, 0, none⟩ = some (.int .u8 p.f0) := (blk_cell HI.out.k1 0).trans rfl
    have d1 : wr.cell? ⟨w.heap.size + 1, 1, none⟩ = some (.int .u8 p.f1) := (blk_cell HI.out.k1 1).trans rfl
    have d2 : wr.cell? ⟨w.heap.size + 1, 2, none⟩ = some (.int .i8 p.f2) := (blk_cell HI.out.k1 2).trans rfl
    by_cases hlj : j < l.length
    · have hlj2 : (j : Int) < (l.length : Int) := by omega
      obtain ⟨ad, rfl, hx0, hx1, hx2⟩ := at_T33 (Kd.C_below HR.out HI.out.b) (j : Int) (by omega) (by omega)
      simp only [Int.toNat_natCast] at hx0 hx1 hx2
      have HD0 := Lib.hid (drop_at hlj)
      obtain ⟨x, hxx⟩ : ∃ x, x = rd_T33 l (j : Nat) := ⟨_, rfl⟩
      rw [← hxx] at hx0 hx1 hx2
      have HD := Lib.hid (show l.drop j = x :: l.drop (j + 1) by rw [hxx]; exact HD0.out)
      have HXX := Lib.hid hxx
      clear hxx HD0
      have HCP := Lib.hid (fun (b : Bool) (hb : aheadP p x = b) (W : World) => spec_l01Ahead.calls p.f0 p.f1 p.f2 x.f0 x.f1 x.f2 b W ((spec_ahead_val p x).trans (by rw [hb])))
      cases dn with
      | true =>
        have HE := Lib.hid (show acc ++ ((if keyB p x = true then [] else [x]) ++ putGo p true (l.drop (j + 1))) = lp by have h1 := HE0.out; rw [HD.out] at h1; exact h1)
        by_cases e0 : x.f0 = p.f0
        · by_cases e1 : x.f1 = p.f1
          · have t1 : (x.f0 != p.f0) = false := by rw [e0]; simp
            have t2 : (x.f1 != p.f1) = false := by rw [e1]; simp
            have HK := Lib.hid (show acc ++ putGo p true (l.drop (j + 1)) = lp by have h1 := HE.out; rw [if_pos (show keyB p x = true by unfold keyB; rw [e0, e1]; simp), List.nil_append] at h1; exact h1)
            clear e0 e1
            go_wp2
            go_quiet (fail)
            go_wp2
            go_quiet (fail)
            go_wp2
            go_roundw
            case measure => simp only [intOf]; omega
            case rel => exact ⟨j + 1, acc, true, by omega, by go_num, rfl, HK, Lib.hid (Kd.R_below HV.out (by first | exact Below.refl _ _ | exact pw_below_drewN (Below.refl _ _) _ | exact pw_below_drewN (pw_below_drewN (Below.refl _ _) _) _)), Lib.hid (HI.out.step (by first | exact Below.refl _ _ | exact pw_below_drewN (Below.refl _ _) _ | exact pw_below_drewN (pw_below_drewN (Below.refl _ _) _) _))⟩
          · have t1 : (x.f0 != p.f0) = false := by rw [e0]; simp
            have t2 : (x.f1 != p.f1) = true := by simpa using e1
            have HK := Lib.hid (show (acc ++ [x]) ++ putGo p true (l.drop (j + 1)) = lp by have h1 := HE.out; rw [if_neg (show ¬ keyB p x = true by unfold keyB; simp [e0, e1]), ← List.append_assoc] at h1; exact h1)
            clear e0 e1
            go_wp2
            go_quiet (fail)
            go_wp2
            go_quiet (fail)
            go_wp2_with (first
              | ((with_reducible refine gate_builtin (b := .append) (xs := #[.tmp 69, .tmp 75]) rfl ?_); at_builtin; refine Kd.R_append k33 (w0 := w) w.heap.size rfl (.tmp 69) (.tmp 75) 26 33 (.agg #[.int .u8 0, .int .u8 0, .int .i8 0]) 3 rfl Tryz.underlying26 info33' rfl (by decide) (by omega) (.slice B acc.length d) acc x [.int .u8 x.f0, .int .u8 x.f1, .int .i8 x.f2] (fun k => w.heap.size + 2 < k) (fun _ => False) ?hS ?hX ?aP (fun _ hk => hk.elim) ?aF ?aO ?aB ?aS ?aL ?_; (case hS => rfl); (case hX => first | rfl | (go_simp; done) | (simp [World.alloc]; done) | (go_simp; rfl)); (case aP => exact k33_mkM _ _ _ _); (case aF => exact fun k hk => Nat.lt_of_lt_of_le (HI.out.step (by first | exact Below.refl _ _ | exact pw_below_drewN (Below.refl _ _) _ | exact pw_below_drewN (pw_below_drewN (Below.refl _ _) _) _)).sz hk); (case aO => exact Kd.R_below HV.out (by first | exact Below.refl _ _ | exact pw_below_drewN (Below.refl _ _) _ | exact pw_below_drewN (pw_below_drewN (Below.refl _ _) _) _)); (case aB => exact (HI.out.step (by first | exact Below.refl _ _ | exact pw_below_drewN (Below.refl _ _) _ | exact pw_below_drewN (pw_below_drewN (Below.refl _ _) _) _)).b); (case aS => exact (HI.out.step (by first | exact Below.refl _ _ | exact pw_below_drewN (Below.refl _ _) _ | exact pw_below_drewN (pw_below_drewN (Below.refl _ _) _) _)).b.size); (case aL => have := HLA.out; omega); intro v2 w6 ho hb hg hat
                 have NB := Lib.hid (show ∀ k, k ≤ w.heap.size + 2 → (Value.slice B acc.length d).ownBlock ≠ some k from fun k hk he => by have h5 := HV.out.1 k he; omega)
                 have I6 := Lib.hid ((HI.out.step (by first | exact Below.refl _ _ | exact pw_below_drewN (Below.refl _ _) _ | exact pw_below_drewN (pw_below_drewN (Below.refl _ _) _) _)).grown hg NB.out hb)
                 have R6 := Lib.hid ho
                 clear ho hb hg hat))
            go_roundw
            case measure => simp only [intOf]; omega
            case rel => exact ⟨j + 1, acc ++ [x], true, by omega, by go_num, rfl, HK, R6, I6⟩
        · have t1 : (x.f0 != p.f0) = true := by simpa using e0
          have HK := Lib.hid (show (acc ++ [x]) ++ putGo p true (l.drop (j + 1)) = lp by have h1 := HE.out; rw [if_neg (show ¬ keyB p x = true by unfold keyB; simp; intro h5; exact absurd h5 e0), ← List.append_assoc] at h1; exact h1)
          clear e0
          go_wp2
          go_quiet (fail)
          go_wp2
          go_quiet (fail)
          go_wp2_with (first
            | ((with_reducible refine gate_builtin (b := .append) (xs := #[.tmp 69, .tmp 75]) rfl ?_); at_builtin; refine Kd.R_append k33 (w0 := w) w.heap.size rfl (.tmp 69) (.tmp 75) 26 33 (.agg #[.int .u8 0, .int .u8 0, .int .i8 0]) 3 rfl Tryz.underlying26 info33' rfl (by decide) (by omega) (.slice B acc.length d) acc x [.int .u8 x.f0, .int .u8 x.f1, .int .i8 x.f2] (fun k => w.heap.size + 2 < k) (fun _ => False) ?hS ?hX ?aP (fun _ hk => hk.elim) ?aF ?aO ?aB ?aS ?aL ?_; (case hS => rfl); (case hX => first | rfl | (go_simp; done) | (simp [World.alloc]; done) | (go_simp; rfl)); (case aP => exact k33_mkM _ _ _ _); (case aF => exact fun k hk => Nat.lt_of_lt_of_le (HI.out.step (by first | exact Below.refl _ _ | exact pw_below_drewN (Below.refl _ _) _ | exact pw_below_drewN (pw_below_drewN (Below.refl _ _) _) _)).sz hk); (case aO => exact Kd.R_below HV.out (by first | exact Below.refl _ _ | exact pw_below_drewN (Below.refl _ _) _ | exact pw_below_drewN (pw_below_drewN (Below.refl _ _) _) _)); (case aB => exact (HI.out.step (by first | exact Below.refl _ _ | exact pw_below_drewN (Below.refl _ _) _ | exact pw_below_drewN (pw_below_drewN (Below.refl _ _) _) _)).b); (case aS => exact (HI.out.step (by first | exact Below.refl _ _ | exact pw_below_drewN (Below.refl _ _) _ | exact pw_below_drewN (pw_below_drewN (Below.refl _ _) _) _)).b.size); (case aL => have := HLA.out; omega); intro v2 w6 ho hb hg hat
               have NB := Lib.hid (show ∀ k, k ≤ w.heap.size + 2 → (Value.slice B acc.length d).ownBlock ≠ some k from fun k hk he => by have h5 := HV.out.1 k he; omega)
               have I6 := Lib.hid ((HI.out.step (by first | exact Below.refl _ _ | exact pw_below_drewN (Below.refl _ _) _ | exact pw_below_drewN (pw_below_drewN (Below.refl _ _) _) _)).grown hg NB.out hb)
               have R6 := Lib.hid ho
               clear ho hb hg hat))
          go_roundw
          case measure => simp only [intOf]; omega
          case rel => exact ⟨j + 1, acc ++ [x], true, by omega, by go_num, rfl, HK, R6, I6⟩
      | false =>
        cases hah : aheadP p x with
        | false =>
          have HQ := Lib.hid (HCP.out false hah)
          have HE := Lib.hid (show acc ++ ((if keyB p x = true then [] else [x]) ++ putGo p false (l.drop (j + 1))) = lp by have h1 := HE0.out; rw [HD.out] at h1; unfold putGo at h1; rw [hah] at h1; exact h1)
          clear hah
          by_cases e0 : x.f0 = p.f0
          · by_cases e1 : x.f1 = p.f1
            · have t1 : (x.f0 != p.f0) = false := by rw [e0]; simp
              have t2 : (x.f1 != p.f1) = false := by rw [e1]; simp
              have HK := Lib.hid (show acc ++ putGo p false (l.drop (j + 1)) = lp by have h1 := HE.out; rw [if_pos (show keyB p x = true by unfold keyB; rw [e0, e1]; simp), List.nil_append] at h1; exact h1)
              clear e0 e1
              go_wp2
              go_region_held3 (fun w' => w'.cell? ⟨w.heap.size, 28, none⟩ = some (.slice (some ad) l.length c) ∧ w'.cell? (ad.add (j * 3)) = some (.int .u8 x.f0) ∧ w'.cell? ⟨(ad.add (j * 3)).block, (ad.add (j * 3)).off + 1, none⟩ = some (.int .u8 x.f1) ∧ w'.cell? ⟨(ad.add (j * 3)).block, (ad.add (j * 3)).off + 2, none⟩ = some (.int .i8 x.f2) ∧ w'.cell? ⟨w.heap.size + 1, 0, none⟩ = some (.int .u8 p.f0) ∧ w'.cell? ⟨w.heap.size + 1, 1, none⟩ = some (.int .u8 p.f1) ∧ w'.cell? ⟨w.heap.size + 1, 2, none⟩ = some (.int .i8 p.f2) ∧ RowKit.Hid (Below wr.heap.size wr w'))
                (first | exact ⟨c28, hx0, hx1, hx2, d0, d1, d2, Lib.hid (below_drew1 (Below.refl _ _))⟩ | exact keep7b (by assumption) hb)
                ((first | (go_at_call 46; with_reducible refine (HQ.out _).mono ?_; rintro e w' ⟨rfl, hb⟩)))
              all_goals
                have hS7 := heldB7 (by assumption)
                have HV1 := Lib.hid (Kd.R_below HV.out hS7)
                have HI1 := Lib.hid (HI.out.step hS7)
                clear hS7
                go_wp2
              all_goals
                go_quiet (fail)
                go_wp2
                go_roundw
                case measure => simp only [intOf]; omega
                case rel => exact ⟨j + 1, acc, false, by omega, by go_num, rfl, HK, Lib.hid (Kd.R_below HV1.out (by first | exact Below.refl _ _ | exact pw_below_drewN (Below.refl _ _) _ | exact pw_below_drewN (pw_below_drewN (Below.refl _ _) _) _)), Lib.hid (HI1.out.step (by first | exact Below.refl _ _ | exact pw_below_drewN (Below.refl _ _) _ | exact pw_below_drewN (pw_below_drewN (Below.refl _ _) _) _))⟩
            · have t1 : (x.f0 != p.f0) = false := by rw [e0]; simp
              have t2 : (x.f1 != p.f1) = true := by simpa using e1
              have HK := Lib.hid (show (acc ++ [x]) ++ putGo p false (l.drop (j + 1)) = lp by have h1 := HE.out; rw [if_neg (show ¬ keyB p x = true by unfold keyB; simp [e0, e1]), ← List.append_assoc] at h1; exact h1)
              clear e0 e1
              go_wp2
              go_region_held3 (fun w' => w'.cell? ⟨w.heap.size, 28, none⟩ = some (.slice (some ad) l.length c) ∧ w'.cell? (ad.add (j * 3)) = some (.int .u8 x.f0) ∧ w'.cell? ⟨(ad.add (j * 3)).block, (ad.add (j * 3)).off + 1, none⟩ = some (.int .u8 x.f1) ∧ w'.cell? ⟨(ad.add (j * 3)).block, (ad.add (j * 3)).off + 2, none⟩ = some (.int .i8 x.f2) ∧ w'.cell? ⟨w.heap.size + 1, 0, none⟩ = some (.int .u8 p.f0) ∧ w'.cell? ⟨w.heap.size + 1, 1, none⟩ = some (.int .u8 p.f1) ∧ w'.cell? ⟨w.heap.size + 1, 2, none⟩ = some (.int .i8 p.f2) ∧ RowKit.Hid (Below wr.heap.size wr w'))
                (first | exact ⟨c28, hx0, hx1, hx2, d0, d1, d2, Lib.hid (below_drew1 (Below.refl _ _))⟩ | exact keep7b (by assumption) hb)
                ((first | (go_at_call 46; with_reducible refine (HQ.out _).mono ?_; rintro e w' ⟨rfl, hb⟩)))
              all_goals
                have hS7 := heldB7 (by assumption)
                have HV1 := Lib.hid (Kd.R_below HV.out hS7)
                have HI1 := Lib.hid (HI.out.step hS7)
                clear hS7
                go_wp2
              all_goals
                go_quiet (fail)
                go_wp2_with (first
                  | ((with_reducible refine gate_builtin (b := .append) (xs := #[.tmp 69, .tmp 75]) rfl ?_); at_builtin; refine Kd.R_append k33 (w0 := w) w.heap.size rfl (.tmp 69) (.tmp 75) 26 33 (.agg #[.int .u8 0, .int .u8 0, .int .i8 0]) 3 rfl Tryz.underlying26 info33' rfl (by decide) (by omega) (.slice B acc.length d) acc x [.int .u8 x.f0, .int .u8 x.f1, .int .i8 x.f2] (fun k => w.heap.size + 2 < k) (fun _ => False) ?hS ?hX ?aP (fun _ hk => hk.elim) ?aF ?aO ?aB ?aS ?aL ?_; (case hS => rfl); (case hX => first | rfl | (go_simp; done) | (simp [World.alloc]; done) | (go_simp; rfl)); (case aP => exact k33_mkM _ _ _ _); (case aF => exact fun k hk => Nat.lt_of_lt_of_le (HI1.out.step (by first | exact Below.refl _ _ | exact pw_below_drewN (Below.refl _ _) _ | exact pw_below_drewN (pw_below_drewN (Below.refl _ _) _) _)).sz hk); (case aO => exact Kd.R_below HV1.out (by first | exact Below.refl _ _ | exact pw_below_drewN (Below.refl _ _) _ | exact pw_below_drewN (pw_below_drewN (Below.refl _ _) _) _)); (case aB => exact (HI1.out.step (by first | exact Below.refl _ _ | exact pw_below_drewN (Below.refl _ _) _ | exact pw_below_drewN (pw_below_drewN (Below.refl _ _) _) _)).b); (case aS => exact (HI1.out.step (by first | exact Below.refl _ _ | exact pw_below_drewN (Below.refl _ _) _ | exact pw_below_drewN (pw_below_drewN (Below.refl _ _) _) _)).b.size); (case aL => have := HLA.out; omega); intro v2 w6 ho hb hg hat
                     have NB := Lib.hid (show ∀ k, k ≤ w.heap.size + 2 → (Value.slice B acc.length d).ownBlock ≠ some k from fun k hk he => by have h5 := HV1.out.1 k he; omega)
                     have I6 := Lib.hid ((HI1.out.step (by first | exact Below.refl _ _ | exact pw_below_drewN (Below.refl _ _) _ | exact pw_below_drewN (pw_below_drewN (Below.refl _ _) _) _)).grown hg NB.out hb)
                     have R6 := Lib.hid ho
                     clear ho hb hg hat))
                go_roundw
                case measure => simp only [intOf]; omega
                case rel => exact ⟨j + 1, acc ++ [x], false, by omega, by go_num, rfl, HK, R6, I6⟩
          · have t1 : (x.f0 != p.f0) = true := by simpa using e0
            have HK := Lib.hid (show (acc ++ [x]) ++ putGo p false (l.drop (j + 1)) = lp by have h1 := HE.out; rw [if_neg (show ¬ keyB p x = true by unfold keyB; simp; intro h5; exact absurd h5 e0), ← List.append_assoc] at h1; exact h1)
            clear e0
            go_wp2
            go_region_held3 (fun w' => w'.cell? ⟨w.heap.size, 28, none⟩ = some (.slice (some ad) l.length c) ∧ w'.cell? (ad.add (j * 3)) = some (.int .u8 x.f0) ∧ w'.cell? ⟨(ad.add (j * 3)).block, (ad.add (j * 3)).off + 1, none⟩ = some (.int .u8 x.f1) ∧ w'.cell? ⟨(ad.add (j * 3)).block, (ad.add (j * 3)).off + 2, none⟩ = some (.int .i8 x.f2) ∧ w'.cell? ⟨w.heap.size + 1, 0, none⟩ = some (.int .u8 p.f0) ∧ w'.cell? ⟨w.heap.size + 1, 1, none⟩ = some (.int .u8 p.f1) ∧ w'.cell? ⟨w.heap.size + 1, 2, none⟩ = some (.int .i8 p.f2) ∧ RowKit.Hid (Below wr.heap.size wr w'))
              (first | exact ⟨c28, hx0, hx1, hx2, d0, d1, d2, Lib.hid (below_drew1 (Below.refl _ _))⟩ | exact keep7b (by assumption) hb)
              ((first | (go_at_call 46; with_reducible refine (HQ.out _).mono ?_; rintro e w' ⟨rfl, hb⟩)))
            all_goals
              have hS7 := heldB7 (by assumption)
              have HV1 := Lib.hid (Kd.R_below HV.out hS7)
              have HI1 := Lib.hid (HI.out.step hS7)
              clear hS7
              go_wp2
            all_goals
              go_quiet (fail)
              go_wp2_with (first
                | ((with_reducible refine gate_builtin (b := .append) (xs := #[.tmp 69, .tmp 75]) rfl ?_); at_builtin; refine Kd.R_append k33 (w0 := w) w.heap.size rfl (.tmp 69) (.tmp 75) 26 33 (.agg #[.int .u8 0, .int .u8 0, .int .i8 0]) 3 rfl Tryz.underlying26 info33' rfl (by decide) (by omega) (.slice B acc.length d) acc x [.int .u8 x.f0, .int .u8 x.f1, .int .i8 x.f2] (fun k => w.heap.size + 2 < k) (fun _ => False) ?hS ?hX ?aP (fun _ hk => hk.elim) ?aF ?aO ?aB ?aS ?aL ?_; (case hS => rfl); (case hX => first | rfl | (go_simp; done) | (simp [World.alloc]; done) | (go_simp; rfl)); (case aP => exact k33_mkM _ _ _ _); (case aF => exact fun k hk => Nat.lt_of_lt_of_le (HI1.out.step (by first | exact Below.refl _ _ | exact pw_below_drewN (Below.refl _ _) _ | exact pw_below_drewN (pw_below_drewN (Below.refl _ _) _) _)).sz hk); (case aO => exact Kd.R_below HV1.out (by first | exact Below.refl _ _ | exact pw_below_drewN (Below.refl _ _) _ | exact pw_below_drewN (pw_below_drewN (Below.refl _ _) _) _)); (case aB => exact (HI1.out.step (by first | exact Below.refl _ _ | exact pw_below_drewN (Below.refl _ _) _ | exact pw_below_drewN (pw_below_drewN (Below.refl _ _) _) _)).b); (case aS => exact (HI1.out.step (by first | exact Below.refl _ _ | exact pw_below_drewN (Below.refl _ _) _ | exact pw_below_drewN (pw_below_drewN (Below.refl _ _) _) _)).b.size); (case aL => have := HLA.out; omega); intro v2 w6 ho hb hg hat
                   have NB := Lib.hid (show ∀ k, k ≤ w.heap.size + 2 → (Value.slice B acc.length d).ownBlock ≠ some k from fun k hk he => by have h5 := HV1.out.1 k he; omega)
                   have I6 := Lib.hid ((HI1.out.step (by first | exact Below.refl _ _ | exact pw_below_drewN (Below.refl _ _) _ | exact pw_below_drewN (pw_below_drewN (Below.refl _ _) _) _)).grown hg NB.out hb)
                   have R6 := Lib.hid ho
                   clear ho hb hg hat))
              go_roundw
              case measure => simp only [intOf]; omega
              case rel => exact ⟨j + 1, acc ++ [x], false, by omega, by go_num, rfl, HK, R6, I6⟩
        | true =>
          have HQ := Lib.hid (HCP.out true hah)
          have HE1 := Lib.hid (show (acc ++ [p]) ++ ((if keyB p x = true then [] else [x]) ++ putGo p true (l.drop (j + 1))) = lp by have h1 := HE0.out; rw [HD.out] at h1; unfold putGo at h1; rw [hah] at h1; rw [List.append_assoc]; exact h1)
          have NK := Lib.hid (show x.f0 = p.f0 → ¬ x.f1 = p.f1 from fun h1 h2 => by unfold aheadP at hah; rw [h1, h2] at hah; simp at hah)
          clear hah
          obtain ⟨acc2, hacc2⟩ : ∃ a, acc ++ [p] = a := ⟨_, rfl⟩
          rw [hacc2] at HE1
          have HA2 := Lib.hid hacc2
          have HLA2 := Lib.hid (show acc2.length ≤ 13 by have h1 := HLP.out; have h2 := congrArg List.length HE1.out; rw [List.length_append] at h2; omega)
          clear hacc2
          by_cases e0 : x.f0 = p.f0
          · have e1 : ¬ x.f1 = p.f1 := NK.out e0
            have t1 : (x.f0 != p.f0) = false := by rw [e0]; simp
            have t2 : (x.f1 != p.f1) = true := by simpa using e1
            have HK := Lib.hid (show (acc2 ++ [x]) ++ putGo p true (l.drop (j + 1)) = lp by have h1 := HE1.out; rw [if_neg (show ¬ keyB p x = true by unfold keyB; simp [e0, e1]), ← List.append_assoc] at h1; exact h1)
            clear e0 e1
            go_wp2
            go_region_held3 (fun w' => w'.cell? ⟨w.heap.size, 28, none⟩ = some (.slice (some ad) l.length c) ∧ w'.cell? (ad.add (j * 3)) = some (.int .u8 x.f0) ∧ w'.cell? ⟨(ad.add (j * 3)).block, (ad.add (j * 3)).off + 1, none⟩ = some (.int .u8 x.f1) ∧ w'.cell? ⟨(ad.add (j * 3)).block, (ad.add (j * 3)).off + 2, none⟩ = some (.int .i8 x.f2) ∧ w'.cell? ⟨w.heap.size + 1, 0, none⟩ = some (.int .u8 p.f0) ∧ w'.cell? ⟨w.heap.size + 1, 1, none⟩ = some (.int .u8 p.f1) ∧ w'.cell? ⟨w.heap.size + 1, 2, none⟩ = some (.int .i8 p.f2) ∧ RowKit.Hid (Below wr.heap.size wr w'))
              (first | exact ⟨c28, hx0, hx1, hx2, d0, d1, d2, Lib.hid (below_drew1 (Below.refl _ _))⟩ | exact keep7b (by assumption) hb)
              ((first | (go_at_call 46; with_reducible refine (HQ.out _).mono ?_; rintro e w' ⟨rfl, hb⟩)))
            all_goals
              have hS7 := heldB7 (by assumption)
              have HV1 := Lib.hid (Kd.R_below HV.out hS7)
              have HI1 := Lib.hid (HI.out.step hS7)
              clear hS7
              go_wp2_with (first
                | ((with_reducible refine gate_builtin (b := .append) (xs := #[.tmp 45, .tmp 47]) rfl ?_); at_builtin; refine Kd.R_append k33 (w0 := w) w.heap.size rfl (.tmp 45) (.tmp 47) 26 33 (.agg #[.int .u8 0, .int .u8 0, .int .i8 0]) 3 rfl Tryz.underlying26 info33' rfl (by decide) (by omega) (.slice B acc.length d) acc p [.int .u8 p.f0, .int .u8 p.f1, .int .i8 p.f2] (fun k => w.heap.size + 2 < k) (fun _ => False) ?hS ?hX ?aP (fun _ hk => hk.elim) ?aF ?aO ?aB ?aS ?aL ?_; (case hS => rfl); (case hX => first | rfl | (go_simp; done) | (simp [World.alloc]; done) | (go_simp; rfl)); (case aP => exact k33_mkM _ _ _ _); (case aF => exact fun k hk => Nat.lt_of_lt_of_le (HI1.out.step (by first | exact Below.refl _ _ | exact pw_below_drewN (Below.refl _ _) _ | exact pw_below_drewN (pw_below_drewN (Below.refl _ _) _) _)).sz hk); (case aO => exact Kd.R_below HV1.out (by first | exact Below.refl _ _ | exact pw_below_drewN (Below.refl _ _) _ | exact pw_below_drewN (pw_below_drewN (Below.refl _ _) _) _)); (case aB => exact (HI1.out.step (by first | exact Below.refl _ _ | exact pw_below_drewN (Below.refl _ _) _ | exact pw_below_drewN (pw_below_drewN (Below.refl _ _) _) _)).b); (case aS => exact (HI1.out.step (by first | exact Below.refl _ _ | exact pw_below_drewN (Below.refl _ _) _ | exact pw_below_drewN (pw_below_drewN (Below.refl _ _) _) _)).b.size); (case aL => have := HLA.out; omega); intro v2 w6 ho hb hg hat
                   have NB := Lib.hid (show ∀ k, k ≤ w.heap.size + 2 → (Value.slice B acc.length d).ownBlock ≠ some k from fun k hk he => by have h5 := HV1.out.1 k he; omega)
                   have I6 := Lib.hid ((HI1.out.step (by first | exact Below.refl _ _ | exact pw_below_drewN (Below.refl _ _) _ | exact pw_below_drewN (pw_below_drewN (Below.refl _ _) _) _)).grown hg NB.out hb)
                   rw [HA2.out] at ho
                   obtain ⟨B2, d2v, rfl⟩ := Kd.R_slice ho
                   have HV2 := Lib.hid ho
                   have HI2 := Lib.hid I6.out
                   clear ho hb hg hat I6 NB HV1 HI1
                   have c28z := (blk_cell HI2.out.k0 28).trans (FV_28 ws HX.out _ _ _)
                   have d0z : w6.cell? ⟨w.heap.size + 1, 0, none⟩ = some (.int .u8 p.f0) := (blk_cell HI2.out.k1 0).trans rfl
                   have d1z : w6.cell? ⟨w.heap.size + 1, 1, none⟩ = some (.int .u8 p.f1) := (blk_cell HI2.out.k1 1).trans rfl
                   have d2z : w6.cell? ⟨w.heap.size + 1, 2, none⟩ = some (.int .i8 p.f2) := (blk_cell HI2.out.k1 2).trans rfl
                   obtain ⟨ad3, ea, hy0, hy1, hy2⟩ := at_T33 (Kd.C_below HR.out HI2.out.b) (j : Int) (by omega) (by omega)
                   cases ea
                   simp only [Int.toNat_natCast] at hy0 hy1 hy2
                   rw [← HXX.out] at hy0 hy1 hy2))
            all_goals
              go_quiet (fail)
              go_wp2_with (first
                | ((with_reducible refine gate_builtin (b := .append) (xs := #[.tmp 69, .tmp 75]) rfl ?_); at_builtin; refine Kd.R_append k33 (w0 := w) w.heap.size rfl (.tmp 69) (.tmp 75) 26 33 (.agg #[.int .u8 0, .int .u8 0, .int .i8 0]) 3 rfl Tryz.underlying26 info33' rfl (by decide) (by omega) (.slice B2 acc2.length d2v) acc2 x [.int .u8 x.f0, .int .u8 x.f1, .int .i8 x.f2] (fun k => w.heap.size + 2 < k) (fun _ => False) ?hS ?hX ?aP (fun _ hk => hk.elim) ?aF ?aO ?aB ?aS ?aL ?_; (case hS => rfl); (case hX => first | rfl | (go_simp; done) | (simp [World.alloc]; done) | (go_simp; rfl)); (case aP => exact k33_mkM _ _ _ _); (case aF => exact fun k hk => Nat.lt_of_lt_of_le (HI2.out.step (by first | exact Below.refl _ _ | exact pw_below_drewN (Below.refl _ _) _ | exact pw_below_drewN (pw_below_drewN (Below.refl _ _) _) _)).sz hk); (case aO => exact Kd.R_below HV2.out (by first | exact Below.refl _ _ | exact pw_below_drewN (Below.refl _ _) _ | exact pw_below_drewN (pw_below_drewN (Below.refl _ _) _) _)); (case aB => exact (HI2.out.step (by first | exact Below.refl _ _ | exact pw_below_drewN (Below.refl _ _) _ | exact pw_below_drewN (pw_below_drewN (Below.refl _ _) _) _)).b); (case aS => exact (HI2.out.step (by first | exact Below.refl _ _ | exact pw_below_drewN (Below.refl _ _) _ | exact pw_below_drewN (pw_below_drewN (Below.refl _ _) _) _)).b.size); (case aL => have := HLA2.out; omega); intro v2 w6 ho hb hg hat
                   have NB := Lib.hid (show ∀ k, k ≤ w.heap.size + 2 → (Value.slice B2 acc2.length d2v).ownBlock ≠ some k from fun k hk he => by have h5 := HV2.out.1 k he; omega)
                   have I6 := Lib.hid ((HI2.out.step (by first | exact Below.refl _ _ | exact pw_below_drewN (Below.refl _ _) _ | exact pw_below_drewN (pw_below_drewN (Below.refl _ _) _) _)).grown hg NB.out hb)
                   have R6 := Lib.hid ho
                   clear ho hb hg hat))
              go_roundw
              case measure => simp only [intOf]; omega
              case rel => exact ⟨j + 1, acc2 ++ [x], true, by omega, by go_num, rfl, HK, R6, I6⟩
          · have t1 : (x.f0 != p.f0) = true := by simpa using e0
            have HK := Lib.hid (show (acc2 ++ [x]) ++ putGo p true (l.drop (j + 1)) = lp by have h1 := HE1.out; rw [if_neg (show ¬ keyB p x = true by unfold keyB; simp; intro h5; exact absurd h5 e0), ← List.append_assoc] at h1; exact h1)
            clear e0
            go_wp2
            go_region_held3 (fun w' => w'.cell? ⟨w.heap.size, 28, none⟩ = some (.slice (some ad) l.length c) ∧ w'.cell? (ad.add (j * 3)) = some (.int .u8 x.f0) ∧ w'.cell? ⟨(ad.add (j * 3)).block, (ad.add (j * 3)).off + 1, none⟩ = some (.int .u8 x.f1) ∧ w'.cell? ⟨(ad.add (j * 3)).block, (ad.add (j * 3)).off + 2, none⟩ = some (.int .i8 x.f2) ∧ w'.cell? ⟨w.heap.size + 1, 0, none⟩ = some (.int .u8 p.f0) ∧ w'.cell? ⟨w.heap.size + 1, 1, none⟩ = some (.int .u8 p.f1) ∧ w'.cell? ⟨w.heap.size + 1, 2, none⟩ = some (.int .i8 p.f2) ∧ RowKit.Hid (Below wr.heap.size wr w'))
              (first | exact ⟨c28, hx0, hx1, hx2, d0, d1, d2, Lib.hid (below_drew1 (Below.refl _ _))⟩ | exact keep7b (by assumption) hb)
              ((first | (go_at_call 46; with_reducible refine (HQ.out _).mono ?_; rintro e w' ⟨rfl, hb⟩)))
            all_goals
              have hS7 := heldB7 (by assumption)
              have HV1 := Lib.hid (Kd.R_below HV.out hS7)
              have HI1 := Lib.hid (HI.out.step hS7)
              clear hS7
              go_wp2_with (first
                | ((with_reducible refine gate_builtin (b := .append) (xs := #[.tmp 45, .tmp 47]) rfl ?_); at_builtin; refine Kd.R_append k33 (w0 := w) w.heap.size rfl (.tmp 45) (.tmp 47) 26 33 (.agg #[.int .u8 0, .int .u8 0, .int .i8 0]) 3 rfl Tryz.underlying26 info33' rfl (by decide) (by omega) (.slice B acc.length d) acc p [.int .u8 p.f0, .int .u8 p.f1, .int .i8 p.f2] (fun k => w.heap.size + 2 < k) (fun _ => False) ?hS ?hX ?aP (fun _ hk => hk.elim) ?aF ?aO ?aB ?aS ?aL ?_; (case hS => rfl); (case hX => first | rfl | (go_simp; done) | (simp [World.alloc]; done) | (go_simp; rfl)); (case aP => exact k33_mkM _ _ _ _); (case aF => exact fun k hk => Nat.lt_of_lt_of_le (HI1.out.step (by first | exact Below.refl _ _ | exact pw_below_drewN (Below.refl _ _) _ | exact pw_below_drewN (pw_below_drewN (Below.refl _ _) _) _)).sz hk); (case aO => exact Kd.R_below HV1.out (by first | exact Below.refl _ _ | exact pw_below_drewN (Below.refl _ _) _ | exact pw_below_drewN (pw_below_drewN (Below.refl _ _) _) _)); (case aB => exact (HI1.out.step (by first | exact Below.refl _ _ | exact pw_below_drewN (Below.refl _ _) _ | exact pw_below_drewN (pw_below_drewN (Below.refl _ _) _) _)).b); (case aS => exact (HI1.out.step (by first | exact Below.refl _ _ | exact pw_below_drewN (Below.refl _ _) _ | exact pw_below_drewN (pw_below_drewN (Below.refl _ _) _) _)).b.size); (case aL => have := HLA.out; omega); intro v2 w6 ho hb hg hat
                   have NB := Lib.hid (show ∀ k, k ≤ w.heap.size + 2 → (Value.slice B acc.length d).ownBlock ≠ some k from fun k hk he => by have h5 := HV1.out.1 k he; omega)
                   have I6 := Lib.hid ((HI1.out.step (by first | exact Below.refl _ _ | exact pw_below_drewN (Below.refl _ _) _ | exact pw_below_drewN (pw_below_drewN (Below.refl _ _) _) _)).grown hg NB.out hb)
                   rw [HA2.out] at ho
                   obtain ⟨B2, d2v, rfl⟩ := Kd.R_slice ho
                   have HV2 := Lib.hid ho
                   have HI2 := Lib.hid I6.out
                   clear ho hb hg hat I6 NB HV1 HI1
                   have c28z := (blk_cell HI2.out.k0 28).trans (FV_28 ws HX.out _ _ _)
                   have d0z : w6.cell? ⟨w.heap.size + 1, 0, none⟩ = some (.int .u8 p.f0) := (blk_cell HI2.out.k1 0).trans rfl
                   have d1z : w6.cell? ⟨w.heap.size + 1, 1, none⟩ = some (.int .u8 p.f1) := (blk_cell HI2.out.k1 1).trans rfl
                   have d2z : w6.cell? ⟨w.heap.size + 1, 2, none⟩ = some (.int .i8 p.f2) := (blk_cell HI2.out.k1 2).trans rfl
                   obtain ⟨ad3, ea, hy0, hy1, hy2⟩ := at_T33 (Kd.C_below HR.out HI2.out.b) (j : Int) (by omega) (by omega)
                   cases ea
                   simp only [Int.toNat_natCast] at hy0 hy1 hy2
                   rw [← HXX.out] at hy0 hy1 hy2))
            all_goals
              go_quiet (fail)
              go_wp2_with (first
                | ((with_reducible refine gate_builtin (b := .append) (xs := #[.tmp 69, .tmp 75]) rfl ?_); at_builtin; refine Kd.R_append k33 (w0 := w) w.heap.size rfl (.tmp 69) (.tmp 75) 26 33 (.agg #[.int .u8 0, .int .u8 0, .int .i8 0]) 3 rfl Tryz.underlying26 info33' rfl (by decide) (by omega) (.slice B2 acc2.length d2v) acc2 x [.int .u8 x.f0, .int .u8 x.f1, .int .i8 x.f2] (fun k => w.heap.size + 2 < k) (fun _ => False) ?hS ?hX ?aP (fun _ hk => hk.elim) ?aF ?aO ?aB ?aS ?aL ?_; (case hS => rfl); (case hX => first | rfl | (go_simp; done) | (simp [World.alloc]; done) | (go_simp; rfl)); (case aP => exact k33_mkM _ _ _ _); (case aF => exact fun k hk => Nat.lt_of_lt_of_le (HI2.out.step (by first | exact Below.refl _ _ | exact pw_below_drewN (Below.refl _ _) _ | exact pw_below_drewN (pw_below_drewN (Below.refl _ _) _) _)).sz hk); (case aO => exact Kd.R_below HV2.out (by first | exact Below.refl _ _ | exact pw_below_drewN (Below.refl _ _) _ | exact pw_below_drewN (pw_below_drewN (Below.refl _ _) _) _)); (case aB => exact (HI2.out.step (by first | exact Below.refl _ _ | exact pw_below_drewN (Below.refl _ _) _ | exact pw_below_drewN (pw_below_drewN (Below.refl _ _) _) _)).b); (case aS => exact (HI2.out.step (by first | exact Below.refl _ _ | exact pw_below_drewN (Below.refl _ _) _ | exact pw_below_drewN (pw_below_drewN (Below.refl _ _) _) _)).b.size); (case aL => have := HLA2.out; omega); intro v2 w6 ho hb hg hat
                   have NB := Lib.hid (show ∀ k, k ≤ w.heap.size + 2 → (Value.slice B2 acc2.length d2v).ownBlock ≠ some k from fun k hk he => by have h5 := HV2.out.1 k he; omega)
                   have I6 := Lib.hid ((HI2.out.step (by first | exact Below.refl _ _ | exact pw_below_drewN (Below.refl _ _) _ | exact pw_below_drewN (pw_below_drewN (Below.refl _ _) _) _)).grown hg NB.out hb)
                   have R6 := Lib.hid ho
                   clear ho hb hg hat))
              go_roundw
              case measure => simp only [intOf]; omega
              case rel => exact ⟨j + 1, acc2 ++ [x], true, by omega, by go_num, rfl, HK, R6, I6⟩
    · have hlj2 : ¬ (j : Int) < (l.length : Int) := by omega
      have HE1 := Lib.hid (show acc ++ putGo p dn [] = lp by have h1 := HE0.out; rw [List.drop_eq_nil_of_le (by omega)] at h1; exact h1)
      clear HE0
      cases dn with
      | true =>
        obtain rfl : acc = lp := (List.append_nil acc).symm.trans HE1.out
        clear HE1 c28 d0 d1 d2
        have W5I := Lib.hid (HI.out.put (FV_set28 ws HX.out sp gp _ (.slice B acc.length d)))
        have R5 := Lib.hid (Kd.R_far HV.out (p := ⟨w.heap.size, 28, none⟩) (fun k hk => by show k ≠ w.heap.size; omega) (.slice B acc.length d))
        have g28 := (blk_cell HI.out.k0 28).trans (FV_28 ws HX.out _ _ _)
        have fz28 := blk_frozen HI.out.k0 28
        cases fb with
        | false =>
            obtain ⟨rfl, rfl⟩ := Prod.mk.inj ((if_neg (by simp)).symm.trans EH.out)
            clear EH
            go_wp2_with (first
              | (go_at_call 47
                 with_reducible refine (shapeC ws HX.out sp gp B d acc w.heap.size _ W5I.out.k0 (Kd.R_reads' R5.out).2.2 (Kd.R_reads' R5.out).2.1 (by have := HLP.out; omega) HF2.out).mono ?_
                 rintro e w9 ⟨rfl, hb⟩
                 rw [EB.out]
                 have I9 := Lib.hid (W5I.out.step hb)
                 have B9 := Lib.hid I9.out.b
                 have R9 := Lib.hid (Kd.R_below R5.out hb)
                 clear hb g28 fz28
                 have hst : (storeCells ⟨w.heap.size + 2, 0, none⟩ ZF.toList 0).run Tryz.prog w9 = .ok () (w9.setRow (w.heap.size + 2) ZF) := storeF I9.out.k2 Z26_len Z26_len
                 have PE := Lib.hid (setRow_heap w9 (w.heap.size + 2) _ ZF U (0, 0) I9.out.k2)))
            refine bodyPost_ret (results_face rfl _ _ (w.heap.size + 2) U Z26 Z26_len 0 0 (.slice none 0 0) rfl PE.out) rfl ?_
            exact ⟨none, 0, rfl, Kd.R_nil _ _ _ _ _, below_setRow B9.out (by omega) _⟩
        | true =>
          have EH2 := Lib.hid ((if_pos rfl).symm.trans EH.out)
          clear EH
          by_cases hle : (acc.length : Int) ≤ 12
          · obtain ⟨rfl, rfl⟩ := Prod.mk.inj ((if_pos hle).symm.trans EH2.out)
            clear EH2
            have hgt : ¬ (12 < (acc.length : Int)) := by omega
            have hgt2 : decide ((acc.length : Int) > 12) = false := decide_eq_false (by omega)
            clear hle
            go_wp2_with (first
              | (go_at_call 47
                 with_reducible refine (shapeC ws HX.out sp gp B d acc w.heap.size _ W5I.out.k0 (Kd.R_reads' R5.out).2.2 (Kd.R_reads' R5.out).2.1 (by have := HLP.out; omega) HF2.out).mono ?_
                 rintro e w9 ⟨rfl, hb⟩
                 rw [EB.out]
                 have I9 := Lib.hid (W5I.out.step hb)
                 have B9 := Lib.hid I9.out.b
                 have R9 := Lib.hid (Kd.R_below R5.out hb)
                 clear hb g28 fz28
                 have q9 := loadF I9.out.k0 HX.out HM.out
                 have hst : (storeCells ⟨w.heap.size + 2, 0, none⟩ (FV ws sp gp (.slice B acc.length d)).toList 0).run Tryz.prog w9 = .ok () (w9.setRow (w.heap.size + 2) (FV ws sp gp (.slice B acc.length d))) := storeF I9.out.k2 Z26_len HX.out
                 have PE := Lib.hid (setRow_heap w9 (w.heap.size + 2) _ (FV ws sp gp (.slice B acc.length d)) U (0, 0) I9.out.k2)))
            refine bodyPost_ret (results_face rfl _ _ (w.heap.size + 2) U ws HX.out sp gp (.slice B acc.length d) rfl PE.out) rfl ?_
            refine ⟨B, d, rfl, Kd.R_mono (Kd.R_step R9.out (fun k hk _ => setRow_other _ _ _ _ ?_)) (fun _ _ => trivial), below_setRow B9.out (by omega) _⟩
            omega
          · obtain ⟨rfl, rfl⟩ := Prod.mk.inj ((if_neg hle).symm.trans EH2.out)
            clear EH2
            have hgt : 12 < (acc.length : Int) := by omega
            have hgt2 : decide ((acc.length : Int) > 12) = true := decide_eq_true (by omega)
            clear hle
            go_wp2_with (first
              | (go_at_call 47
                 with_reducible refine (shapeC ws HX.out sp gp B d acc w.heap.size _ W5I.out.k0 (Kd.R_reads' R5.out).2.2 (Kd.R_reads' R5.out).2.1 (by have := HLP.out; omega) HF2.out).mono ?_
                 rintro e w9 ⟨rfl, hb⟩
                 rw [EB.out]
                 have I9 := Lib.hid (W5I.out.step hb)
                 have B9 := Lib.hid I9.out.b
                 have R9 := Lib.hid (Kd.R_below R5.out hb)
                 clear hb g28 fz28
                 have hst : (storeCells ⟨w.heap.size + 2, 0, none⟩ ZF.toList 0).run Tryz.prog w9 = .ok () (w9.setRow (w.heap.size + 2) ZF) := storeF I9.out.k2 Z26_len Z26_len
                 have PE := Lib.hid (setRow_heap w9 (w.heap.size + 2) _ ZF U (0, 0) I9.out.k2)))
            refine bodyPost_ret (results_face rfl _ _ (w.heap.size + 2) U Z26 Z26_len 0 0 (.slice none 0 0) rfl PE.out) rfl ?_
            exact ⟨none, 0, rfl, Kd.R_nil _ _ _ _ _, below_setRow B9.out (by omega) _⟩
      | false =>
        have HA2 := Lib.hid (show acc ++ [p] = lp from HE1.out)
        have g28 := (blk_cell HI.out.k0 28).trans (FV_28 ws HX.out _ _ _)
        have fz28 := blk_frozen HI.out.k0 28
        clear HE1 c28
        cases fb with
        | false =>
            obtain ⟨rfl, rfl⟩ := Prod.mk.inj ((if_neg (by simp)).symm.trans EH.out)
            clear EH
            go_wp2_with (first
              | ((with_reducible refine gate_builtin (b := .append) (xs := #[.tmp 79, .tmp 81]) rfl ?_); at_builtin; refine Kd.R_append k33 (w0 := w) w.heap.size rfl (.tmp 79) (.tmp 81) 26 33 (.agg #[.int .u8 0, .int .u8 0, .int .i8 0]) 3 rfl Tryz.underlying26 info33' rfl (by decide) (by omega) (.slice B acc.length d) acc p [.int .u8 p.f0, .int .u8 p.f1, .int .i8 p.f2] (fun k => w.heap.size + 2 < k) (fun _ => False) ?hS ?hX ?aP (fun _ hk => hk.elim) ?aF ?aO ?aB ?aS ?aL ?_; (case hS => rfl); (case hX => first | rfl | (go_simp; done) | (simp [World.alloc]; done) | (go_simp; rfl)); (case aP => exact k33_mkM _ _ _ _); (case aF => exact fun k hk => Nat.lt_of_lt_of_le (HI.out.step (by first | exact Below.refl _ _ | exact pw_below_drewN (Below.refl _ _) _ | exact pw_below_drewN (pw_below_drewN (Below.refl _ _) _) _)).sz hk); (case aO => exact Kd.R_below HV.out (by first | exact Below.refl _ _ | exact pw_below_drewN (Below.refl _ _) _ | exact pw_below_drewN (pw_below_drewN (Below.refl _ _) _) _)); (case aB => exact (HI.out.step (by first | exact Below.refl _ _ | exact pw_below_drewN (Below.refl _ _) _ | exact pw_below_drewN (pw_below_drewN (Below.refl _ _) _) _)).b); (case aS => exact (HI.out.step (by first | exact Below.refl _ _ | exact pw_below_drewN (Below.refl _ _) _ | exact pw_below_drewN (pw_below_drewN (Below.refl _ _) _) _)).b.size); (case aL => have := HLA.out; omega); intro v2 w6 ho hb hg hat
                 have NB := Lib.hid (show ∀ k, k ≤ w.heap.size + 2 → (Value.slice B acc.length d).ownBlock ≠ some k from fun k hk he => by have h5 := HV.out.1 k he; omega)
                 have I6 := Lib.hid ((HI.out.step (by first | exact Below.refl _ _ | exact pw_below_drewN (Below.refl _ _) _ | exact pw_below_drewN (pw_below_drewN (Below.refl _ _) _) _)).grown hg NB.out hb)
                 rw [HA2.out] at ho
                 obtain ⟨B2, dz, rfl⟩ := Kd.R_slice ho
                 have HV2 := Lib.hid ho
                 clear ho hb hg hat NB HV g28 fz28
                 have W5I := Lib.hid (I6.out.put (FV_set28 ws HX.out sp gp _ (.slice B2 lp.length dz)))
                 have R5 := Lib.hid (Kd.R_far HV2.out (p := ⟨w.heap.size, 28, none⟩) (fun k hk => by show k ≠ w.heap.size; omega) (.slice B2 lp.length dz))
                 have g28 := (blk_cell I6.out.k0 28).trans (FV_28 ws HX.out _ _ _)
                 have fz28 := blk_frozen I6.out.k0 28)
              | (go_at_call 47
                 with_reducible refine (shapeC ws HX.out sp gp B2 dz lp w.heap.size _ W5I.out.k0 (Kd.R_reads' R5.out).2.2 (Kd.R_reads' R5.out).2.1 (by have := HLP.out; omega) HF2.out).mono ?_
                 rintro e w9 ⟨rfl, hb⟩
                 rw [EB.out]
                 have I9 := Lib.hid (W5I.out.step hb)
                 have B9 := Lib.hid I9.out.b
                 have R9 := Lib.hid (Kd.R_below R5.out hb)
                 clear hb g28 fz28
                 have hst : (storeCells ⟨w.heap.size + 2, 0, none⟩ ZF.toList 0).run Tryz.prog w9 = .ok () (w9.setRow (w.heap.size + 2) ZF) := storeF I9.out.k2 Z26_len Z26_len
                 have PE := Lib.hid (setRow_heap w9 (w.heap.size + 2) _ ZF U (0, 0) I9.out.k2)))
            refine bodyPost_ret (results_face rfl _ _ (w.heap.size + 2) U Z26 Z26_len 0 0 (.slice none 0 0) rfl PE.out) rfl ?_
            exact ⟨none, 0, rfl, Kd.R_nil _ _ _ _ _, below_setRow B9.out (by omega) _⟩
        | true =>
          have EH2 := Lib.hid ((if_pos rfl).symm.trans EH.out)
          clear EH
          by_cases hle : (lp.length : Int) ≤ 12
          · obtain ⟨rfl, rfl⟩ := Prod.mk.inj ((if_pos hle).symm.trans EH2.out)
            clear EH2
            have hgt : ¬ (12 < (lp.length : Int)) := by omega
            have hgt2 : decide ((lp.length : Int) > 12) = false := decide_eq_false (by omega)
            clear hle
            go_wp2_with (first
              | ((with_reducible refine gate_builtin (b := .append) (xs := #[.tmp 79, .tmp 81]) rfl ?_); at_builtin; refine Kd.R_append k33 (w0 := w) w.heap.size rfl (.tmp 79) (.tmp 81) 26 33 (.agg #[.int .u8 0, .int .u8 0, .int .i8 0]) 3 rfl Tryz.underlying26 info33' rfl (by decide) (by omega) (.slice B acc.length d) acc p [.int .u8 p.f0, .int .u8 p.f1, .int .i8 p.f2] (fun k => w.heap.size + 2 < k) (fun _ => False) ?hS ?hX ?aP (fun _ hk => hk.elim) ?aF ?aO ?aB ?aS ?aL ?_; (case hS => rfl); (case hX => first | rfl | (go_simp; done) | (simp [World.alloc]; done) | (go_simp; rfl)); (case aP => exact k33_mkM _ _ _ _); (case aF => exact fun k hk => Nat.lt_of_lt_of_le (HI.out.step (by first | exact Below.refl _ _ | exact pw_below_drewN (Below.refl _ _) _ | exact pw_below_drewN (pw_below_drewN (Below.refl _ _) _) _)).sz hk); (case aO => exact Kd.R_below HV.out (by first | exact Below.refl _ _ | exact pw_below_drewN (Below.refl _ _) _ | exact pw_below_drewN (pw_below_drewN (Below.refl _ _) _) _)); (case aB => exact (HI.out.step (by first | exact Below.refl _ _ | exact pw_below_drewN (Below.refl _ _) _ | exact pw_below_drewN (pw_below_drewN (Below.refl _ _) _) _)).b); (case aS => exact (HI.out.step (by first | exact Below.refl _ _ | exact pw_below_drewN (Below.refl _ _) _ | exact pw_below_drewN (pw_below_drewN (Below.refl _ _) _) _)).b.size); (case aL => have := HLA.out; omega); intro v2 w6 ho hb hg hat
                 have NB := Lib.hid (show ∀ k, k ≤ w.heap.size + 2 → (Value.slice B acc.length d).ownBlock ≠ some k from fun k hk he => by have h5 := HV.out.1 k he; omega)
                 have I6 := Lib.hid ((HI.out.step (by first | exact Below.refl _ _ | exact pw_below_drewN (Below.refl _ _) _ | exact pw_below_drewN (pw_below_drewN (Below.refl _ _) _) _)).grown hg NB.out hb)
                 rw [HA2.out] at ho
                 obtain ⟨B2, dz, rfl⟩ := Kd.R_slice ho
                 have HV2 := Lib.hid ho
                 clear ho hb hg hat NB HV g28 fz28
                 have W5I := Lib.hid (I6.out.put (FV_set28 ws HX.out sp gp _ (.slice B2 lp.length dz)))
                 have R5 := Lib.hid (Kd.R_far HV2.out (p := ⟨w.heap.size, 28, none⟩) (fun k hk => by show k ≠ w.heap.size; omega) (.slice B2 lp.length dz))
                 have g28 := (blk_cell I6.out.k0 28).trans (FV_28 ws HX.out _ _ _)
                 have fz28 := blk_frozen I6.out.k0 28)
              | (go_at_call 47
                 with_reducible refine (shapeC ws HX.out sp gp B2 dz lp w.heap.size _ W5I.out.k0 (Kd.R_reads' R5.out).2.2 (Kd.R_reads' R5.out).2.1 (by have := HLP.out; omega) HF2.out).mono ?_
                 rintro e w9 ⟨rfl, hb⟩
                 rw [EB.out]
                 have I9 := Lib.hid (W5I.out.step hb)
                 have B9 := Lib.hid I9.out.b
                 have R9 := Lib.hid (Kd.R_below R5.out hb)
                 clear hb g28 fz28
                 have q9 := loadF I9.out.k0 HX.out HM.out
                 have hst : (storeCells ⟨w.heap.size + 2, 0, none⟩ (FV ws sp gp (.slice B2 lp.length dz)).toList 0).run Tryz.prog w9 = .ok () (w9.setRow (w.heap.size + 2) (FV ws sp gp (.slice B2 lp.length dz))) := storeF I9.out.k2 Z26_len HX.out
                 have PE := Lib.hid (setRow_heap w9 (w.heap.size + 2) _ (FV ws sp gp (.slice B2 lp.length dz)) U (0, 0) I9.out.k2)))
            refine bodyPost_ret (results_face rfl _ _ (w.heap.size + 2) U ws HX.out sp gp (.slice B2 lp.length dz) rfl PE.out) rfl ?_
            refine ⟨B2, dz, rfl, Kd.R_mono (Kd.R_step R9.out (fun k hk _ => setRow_other _ _ _ _ ?_)) (fun _ _ => trivial), below_setRow B9.out (by omega) _⟩
            omega
          · obtain ⟨rfl, rfl⟩ := Prod.mk.inj ((if_neg hle).symm.trans EH2.out)
            clear EH2
            have hgt : 12 < (lp.length : Int) := by omega
            have hgt2 : decide ((lp.length : Int) > 12) = true := decide_eq_true (by omega)
            clear hle
            go_wp2_with (first
              | ((with_reducible refine gate_builtin (b := .append) (xs := #[.tmp 79, .tmp 81]) rfl ?_); at_builtin; refine Kd.R_append k33 (w0 := w) w.heap.size rfl (.tmp 79) (.tmp 81) 26 33 (.agg #[.int .u8 0, .int .u8 0, .int .i8 0]) 3 rfl Tryz.underlying26 info33' rfl (by decide) (by omega) (.slice B acc.length d) acc p [.int .u8 p.f0, .int .u8 p.f1, .int .i8 p.f2] (fun k => w.heap.size + 2 < k) (fun _ => False) ?hS ?hX ?aP (fun _ hk => hk.elim) ?aF ?aO ?aB ?aS ?aL ?_; (case hS => rfl); (case hX => first | rfl | (go_simp; done) | (simp [World.alloc]; done) | (go_simp; rfl)); (case aP => exact k33_mkM _ _ _ _); (case aF => exact fun k hk => Nat.lt_of_lt_of_le (HI.out.step (by first | exact Below.refl _ _ | exact pw_below_drewN (Below.refl _ _) _ | exact pw_below_drewN (pw_below_drewN (Below.refl _ _) _) _)).sz hk); (case aO => exact Kd.R_below HV.out (by first | exact Below.refl _ _ | exact pw_below_drewN (Below.refl _ _) _ | exact pw_below_drewN (pw_below_drewN (Below.refl _ _) _) _)); (case aB => exact (HI.out.step (by first | exact Below.refl _ _ | exact pw_below_drewN (Below.refl _ _) _ | exact pw_below_drewN (pw_below_drewN (Below.refl _ _) _) _)).b); (case aS => exact (HI.out.step (by first | exact Below.refl _ _ | exact pw_below_drewN (Below.refl _ _) _ | exact pw_below_drewN (pw_below_drewN (Below.refl _ _) _) _)).b.size); (case aL => have := HLA.out; omega); intro v2 w6 ho hb hg hat
                 have NB := Lib.hid (show ∀ k, k ≤ w.heap.size + 2 → (Value.slice B acc.length d).ownBlock ≠ some k from fun k hk he => by have h5 := HV.out.1 k he; omega)
                 have I6 := Lib.hid ((HI.out.step (by first | exact Below.refl _ _ | exact pw_below_drewN (Below.refl _ _) _ | exact pw_below_drewN (pw_below_drewN (Below.refl _ _) _) _)).grown hg NB.out hb)
                 rw [HA2.out] at ho
                 obtain ⟨B2, dz, rfl⟩ := Kd.R_slice ho
                 have HV2 := Lib.hid ho
                 clear ho hb hg hat NB HV g28 fz28
                 have W5I := Lib.hid (I6.out.put (FV_set28 ws HX.out sp gp _ (.slice B2 lp.length dz)))
                 have R5 := Lib.hid (Kd.R_far HV2.out (p := ⟨w.heap.size, 28, none⟩) (fun k hk => by show k ≠ w.heap.size; omega) (.slice B2 lp.length dz))
                 have g28 := (blk_cell I6.out.k0 28).trans (FV_28 ws HX.out _ _ _)
                 have fz28 := blk_frozen I6.out.k0 28)
              | (go_at_call 47
                 with_reducible refine (shapeC ws HX.out sp gp B2 dz lp w.heap.size _ W5I.out.k0 (Kd.R_reads' R5.out).2.2 (Kd.R_reads' R5.out).2.1 (by have := HLP.out; omega) HF2.out).mono ?_
                 rintro e w9 ⟨rfl, hb⟩
                 rw [EB.out]
                 have I9 := Lib.hid (W5I.out.step hb)
                 have B9 := Lib.hid I9.out.b
                 have R9 := Lib.hid (Kd.R_below R5.out hb)
                 clear hb g28 fz28
                 have hst : (storeCells ⟨w.heap.size + 2, 0, none⟩ ZF.toList 0).run Tryz.prog w9 = .ok () (w9.setRow (w.heap.size + 2) ZF) := storeF I9.out.k2 Z26_len Z26_len
                 have PE := Lib.hid (setRow_heap w9 (w.heap.size + 2) _ ZF U (0, 0) I9.out.k2)))
            refine bodyPost_ret (results_face rfl _ _ (w.heap.size + 2) U Z26 Z26_len 0 0 (.slice none 0 0) rfl PE.out) rfl ?_
            exact ⟨none, 0, rfl, Kd.R_nil _ _ _ _ _, below_setRow B9.out (by omega) _⟩
end Go.Proofs.YtimkkjkgbbfgbaaGreatDoor.Q
