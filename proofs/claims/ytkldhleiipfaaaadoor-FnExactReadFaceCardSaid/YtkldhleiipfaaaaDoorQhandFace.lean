/- Faces: laws.toFace, laws.eqFace, by hand, over a face's 26 widths as one list. -/
import Derived.Test.YtkldhleiipfaaaaDoorQhandA26
import Derived.Test.YtkldhleiipfaaaaDoorQlawstoPairS
import Derived.Test.YtkldhleiipfaaaaDoorQlawseqPairS
namespace Go.Proofs.YtkldhleiipfaaaaDoor.Q
open Go.RowKit Go.Proofs.YtkldhleiipfaaaaDoorW.PrintWords Go.Proofs.YtkldhleiipfaaaaDoorW.PrintLast Go.Proofs.YtkldhleiipfaaaaDoorW.PrintMore
open Go.Proofs.YtkldhleiipfaaaaDoor.Pure
set_option linter.unusedVariables false
set_option linter.unusedSimpArgs false

/-- The cells of a face. -/
def FV (ws : List Int) (sp gp : Int) (v : Value) : Array Value := (ws.map (Value.int .i8) ++ [.int .i8 sp, .int .i8 gp, v]).toArray
theorem FV_size (ws : List Int) (hx : ws.length = 26) (sp gp : Int) (v : Value) : (FV ws sp gp v).size = 29 := by simp [FV, hx]
theorem FV_lt (ws : List Int) (hx : ws.length = 26) (sp gp : Int) (v : Value) (k : Nat) (h : k < 26) : (FV ws sp gp v)[k]? = some (.int .i8 (rd ws (k : Nat))) := by
  rw [rd_get _ _ (by omega)]
  simp [FV, List.getElem?_append_left, hx, h]
theorem FV_26 (ws : List Int) (hx : ws.length = 26) (sp gp : Int) (v : Value) : (FV ws sp gp v)[26]? = some (.int .i8 sp) := by
  simp [FV, List.getElem?_append_right, hx]
theorem FV_27 (ws : List Int) (hx : ws.length = 26) (sp gp : Int) (v : Value) : (FV ws sp gp v)[27]? = some (.int .i8 gp) := by
  simp [FV, List.getElem?_append_right, hx]
theorem FV_28 (ws : List Int) (hx : ws.length = 26) (sp gp : Int) (v : Value) : (FV ws sp gp v)[28]? = some v := by
  simp [FV, List.getElem?_append_right, hx]
theorem FV_set26 (ws : List Int) (hx : ws.length = 26) (sp gp x : Int) (v : Value) : (FV ws sp gp v).setIfInBounds 26 (.int .i8 x) = FV ws x gp v := by
  simp [FV, List.set_append_right, hx]
theorem FV_set27 (ws : List Int) (hx : ws.length = 26) (sp gp x : Int) (v : Value) : (FV ws sp gp v).setIfInBounds 27 (.int .i8 x) = FV ws sp x v := by
  simp [FV, List.set_append_right, hx]
theorem FV_set28 (ws : List Int) (hx : ws.length = 26) (sp gp : Int) (v x : Value) : (FV ws sp gp v).setIfInBounds 28 x = FV ws sp gp x := by
  simp [FV, List.set_append_right, hx]
theorem addr_at (g j : Nat) : (⟨g, 0, none⟩ : Addr).add j = ⟨g, j, none⟩ := by unfold Addr.add; split <;> simp_all
theorem loadA {w : World} {g : Nat} {t : TypeId} {ws : List Int} {sp gp : Int} {v : Value} (h : w.heap[g]? = some (.cells (FV ws sp gp v) t (0, 0))) (hx : ws.length = 26) {n : Nat} (hn : n = 26) :
    (loadCellsFrom ⟨g, 0, none⟩ 0 n #[]).run Tryd.prog w = .ok (arr8 ws) w := by
  subst hn
  have := run_loadCells_list (P := Tryd.prog) (w := w) ⟨g, 0, none⟩ (arr8 ws).toList (fun j x hv => by
    have hj : j < 26 := by
      have := (List.getElem?_eq_some_iff.1 hv).1
      simpa [arr8, hx] using this
    rw [addr_at, blk_cell h j, FV_lt ws hx sp gp v j hj, ← hv, ← arr8_get ws j (by omega)]
    simp)
  have hl : (arr8 ws).toList.length = 26 := by simp [arr8, hx]
  rw [hl] at this
  simpa [loadCells] using this
theorem loadF {w : World} {g : Nat} {t : TypeId} {ws : List Int} {sp gp : Int} {v : Value} (h : w.heap[g]? = some (.cells (FV ws sp gp v) t (0, 0))) (hx : ws.length = 26) {n : Nat} (hn : n = 29) :
    (loadCellsFrom ⟨g, 0, none⟩ 0 n #[]).run Tryd.prog w = .ok (FV ws sp gp v) w := by
  subst hn
  have := run_loadCells_list (P := Tryd.prog) (w := w) ⟨g, 0, none⟩ (FV ws sp gp v).toList (fun j x hv => by
    rw [addr_at, blk_cell h j]
    simpa using hv)
  have hl : (FV ws sp gp v).toList.length = 29 := by simp [FV, hx]
  rw [hl] at this
  simpa [loadCells] using this
theorem storeA {w : World} {g : Nat} {t : TypeId} {ws xs : List Int} {sp gp : Int} {v : Value} (h : w.heap[g]? = some (.cells (FV ws sp gp v) t (0, 0))) (hw : ws.length = 26) (hx : xs.length = 26) :
    (storeCells ⟨g, 0, none⟩ (arr8 xs).toList 0).run Tryd.prog w = .ok () (w.setRow g (FV xs sp gp v)) := by
  have := run_storeCells_at (P := Tryd.prog) g 0 t (arr8 xs).toList 0 (FV ws sp gp v) w h (by simp [arr8, FV, hx, hw]) (fun v hv => by
    simp [arr8] at hv
    obtain ⟨a, _, rfl⟩ := hv
    rfl)
  rw [this]
  congr 2
  have e1 : (arr8 xs).toList.length = 26 := by simp [arr8, hx]
  rw [e1]
  simp [arr8, FV, List.drop_append, hw]
theorem storeF {w : World} {g : Nat} {t : TypeId} {ws xs : List Int} {sp gp sp' gp' : Int} {v : Value} {A : Option Addr} {n c : Nat} (h : w.heap[g]? = some (.cells (FV ws sp gp v) t (0, 0))) (hw : ws.length = 26) (hx : xs.length = 26) :
    (storeCells ⟨g, 0, none⟩ (FV xs sp' gp' (.slice A n c)).toList 0).run Tryd.prog w = .ok () (w.setRow g (FV xs sp' gp' (.slice A n c))) := by
  have := run_storeCells_from (P := Tryd.prog) g t (FV xs sp' gp' (.slice A n c)).toList 0 (FV ws sp gp v) w h (by simp [FV, hx, hw]) (fun v hv => by
    simp [FV] at hv
    rcases hv with ⟨a, _, rfl⟩ | rfl | rfl | rfl <;> rfl)
  simpa using this

def toPr (x : S69) : S48 := ⟨x.f0, x.f1, x.f2⟩
theorem rd44_get (xs : List S69) (k : Nat) (h : k < xs.length) : rd_T69 xs (k : Int) = xs[k] := by
  unfold rd_T69
  simp [List.getD_eq_getElem?_getD, h]
theorem rd46_get (xs : List S48) (k : Nat) (h : k < xs.length) : rd_T48 xs (k : Int) = xs[k] := by
  unfold rd_T48
  simp [List.getD_eq_getElem?_getD, h]

theorem laws_toPairS.val (l : List S69) (hl : l.length ≤ 1048576) (k : Nat) (hk : l.length < k) : laws_toPairS.f k l = some (l.map toPr) := by
  unfold laws_toPairS.f
  rw [if_pos (by omega), if_pos (by omega)]
  refine scan_copy (n := l.length) (l := fun k i x => laws_toPairS.l0 k l x i) (by simp) (fun k i x hi hx => ?_) (fun k x hx => ?_) _ hk _ (by simp)
  · simp only [laws_toPairS.l0, laws_toPair.f, Option.bind_some]
    rw [if_pos (by omega), if_pos (by omega), if_pos (by omega), wrap_succ hi (by omega), rd44_get _ _ hi, Int.toNat_natCast, List.getElem_map]
    rfl
  · simp [laws_toPairS.l0]

def Z26 : List Int := List.replicate 26 0
theorem Z26_len : Z26.length = 26 := rfl
def ZF : Array Value := FV Z26 0 0 (.slice none 0 0)

set_option maxHeartbeats 4000000 in
theorem toFaceC (ws : List Int) (hx : ws.length = 26) (sp gp : Int) (A : Option Addr) (c : Nat) (l : List S69) (w : World) (hr : Kd.C k69 w A l.length l) (hc : l.length ≤ c) (hl : l.length ≤ 1048576) :
    Calls Tryd.prog 7 #[.agg (FV ws sp gp (.slice A l.length c))] w fun e w' => ∃ B d, e = .returned (.agg (FV ws sp gp (.slice B l.length d))) ∧ Kd.R k48 48 w' w.heap.size (fun _ => True) (.slice B l.length d) (l.map toPr) ∧ Below w.heap.size w w' := by
  go_enter Tryd.func7, Tryd.ntmps7
  obtain ⟨N, hN⟩ : ∃ N : Nat, N = 26 := ⟨_, rfl⟩
  obtain ⟨M, hM⟩ : ∃ M : Nat, M = 29 := ⟨_, rfl⟩
  have hz : ∀ w, (sizeOf 23).run Tryd.prog w = .ok N w := fun w => by rw [hN]; exact Tryd.sizeOf23 w
  have ha : ∀ w, (isAgg 23).run Tryd.prog w = .ok true w := Tryd.isAgg23
  have hzM : ∀ w, (sizeOf 31).run Tryd.prog w = .ok M w := fun w => by rw [hM]; exact Tryd.sizeOf31 w
  have haM : ∀ w, (isAgg 31).run Tryd.prog w = .ok true w := Tryd.isAgg31
  have hvM : ∀ w, (zeroValue 31).run Tryd.prog w = .ok (.agg ZF) w := Tryd.zeroValue31
  have huM := fun w => run_underlying (P := Tryd.prog) (w := w) Tryd.underlying31
  generalize hT : (23 : TypeId) = T at hz ha huM ⊢
  generalize hU : (31 : TypeId) = U at hzM haM hvM huM ⊢
  have hN0 : ¬ N = 0 := by omega
  have HT := Lib.hid hT
  have HU := Lib.hid hU
  have HN := Lib.hid hN
  have HM := Lib.hid hM
  have HX := Lib.hid hx
  have HR := Lib.hid hr
  have HC := Lib.hid hc
  have HL := Lib.hid hl
  clear hT hU hN hM hr hc hl hx
  have H3 := Lib.hid (three_blocks w (.cells (FV ws sp gp (.slice A l.length c)) 26) (.cells ZF U) (.cells ZF U))
  have HB := Lib.hid (below_alloc (below_alloc (below_alloc (Below.refl _ w) (.cells (FV ws sp gp (.slice A l.length c)) 26)) (.cells ZF U)) (.cells ZF U))
  have HS3 := Lib.hid (show (((w.alloc (.cells (FV ws sp gp (.slice A l.length c)) 26)).alloc (.cells ZF U)).alloc (.cells ZF U)).heap.size = w.heap.size + 3 by simp)
  have hLA := loadA H3.out.1 HX.out HN.out
  have hAs : (arr8 ws).size = N := by rw [arr8_size, HX.out, HN.out]
  have hFs : ∀ v, (FV ws sp gp v).size = M := fun v => by rw [FV_size ws HX.out, HM.out]
  go_wp2_with (first
    | (go_at_call 17
       with_reducible refine (toA26 ws HX.out _).mono ?_
       rintro e w1 ⟨rfl, hb⟩
       have B1 := Lib.hid (below_step HB.out hb)
       have K0 := Lib.hid ((hb.block w.heap.size (by rw [HS3.out]; omega)).trans H3.out.1)
       have K1 := Lib.hid ((hb.block (w.heap.size + 1) (by rw [HS3.out]; omega)).trans H3.out.2.1)
       have K2 := Lib.hid ((hb.block (w.heap.size + 2) (by rw [HS3.out]; omega)).trans H3.out.2.2)
       have S1 := Lib.hid (show w.heap.size + 3 ≤ w1.heap.size from HS3.out ▸ hb.size)
       clear hb
       have hS := storeA K2.out Z26_len HX.out
       obtain ⟨w4, hw4⟩ : ∃ w4, w4 = w1.setRow (w.heap.size + 2) (FV ws 0 0 (.slice none 0 0)) := ⟨_, rfl⟩
       rw [← hw4] at hS
       have B4 := Lib.hid (show Below w.heap.size w w4 by rw [hw4]; exact below_setRow B1.out (by omega) _)
       have J0 := Lib.hid (show w4.heap[w.heap.size]? = some (.cells (FV ws sp gp (.slice A l.length c)) 26) by rw [hw4, setRow_other _ _ _ _ (by omega)]; exact K0.out)
       have J1 := Lib.hid (show w4.heap[w.heap.size + 1]? = some (.cells ZF U) by rw [hw4, setRow_other _ _ _ _ (by omega)]; exact K1.out)
       have J2 := Lib.hid (show w4.heap[w.heap.size + 2]? = some (.cells (FV ws 0 0 (.slice none 0 0)) U) by rw [hw4]; exact setRow_heap _ _ _ _ _ _ K2.out)
       have S4 := Lib.hid (show w.heap.size + 3 ≤ w4.heap.size by rw [hw4, size_setRow]; exact S1.out)
       clear hw4
       have c26 := (blk_cell J0.out 26).trans (FV_26 ws HX.out _ _ _)
       have c27 := (blk_cell J0.out 27).trans (FV_27 ws HX.out _ _ _)
       have c28 := (blk_cell J0.out 28).trans (FV_28 ws HX.out _ _ _)
       have d26 := (blk_cell J2.out 26).trans (FV_26 ws HX.out _ _ _)
       have d27 := (blk_cell J2.out 27).trans (FV_27 ws HX.out _ _ _)
       have f26 := blk_frozen J2.out 26
       have f27 := blk_frozen J2.out 27)
    | (go_at_call 18
       with_reducible refine (laws_toPairS.calls (l.length + 1) A c l (l.map toPr) _ (Kd.C_below HR.out ?s1) HC.out (laws_toPairS.val l HL.out _ (by omega))).mono ?_
       case s1 => exact below_set (below_set B4.out (by omega)) (by omega)
       rintro e w7 ⟨v0, rfl, hR, hb⟩
       have B7 := Lib.hid (show Below w.heap.size w w7 from below_step (below_set (below_set B4.out (by omega)) (by omega)) hb)
       have L1 := Lib.hid ((hb.block (w.heap.size + 1) (by have := S4.out; simp; omega)).trans (blk_far (p := ⟨w.heap.size + 2, 27, none⟩) (blk_far (p := ⟨w.heap.size + 2, 26, none⟩) J1.out (by simp) _) (by simp) _))
       have L2 := Lib.hid ((hb.block (w.heap.size + 2) (by have := S4.out; simp; omega)).trans (blk_put (blk_put J2.out 26 (.int .i8 sp) (FV_set26 ws HX.out 0 0 sp _)) 27 (.int .i8 gp) (FV_set27 ws HX.out sp 0 gp _)))
       have e28 := (blk_cell L2.out 28).trans (FV_28 ws HX.out _ _ _)
       have f28 := blk_frozen L2.out 28
       obtain ⟨B, d, rfl⟩ := Kd.R_slice hR
       rw [List.length_map] at *
       have L3 := Lib.hid (blk_put L2.out 28 (.slice B l.length d) (FV_set28 ws HX.out sp gp _ _))
       have L4 := Lib.hid (blk_far (p := ⟨w.heap.size + 2, 28, none⟩) L1.out (by simp) (.slice B l.length d))
       have hLF := loadF L3.out HX.out HM.out
       have hSF := storeF L4.out Z26_len HX.out (sp' := sp) (gp' := gp) (A := B) (n := l.length) (c := d)
       have PE := Lib.hid (setRow_heap _ (w.heap.size + 1) _ (FV ws sp gp (.slice B l.length d)) U (0, 0) L4.out)
       have RR := Lib.hid hR
       clear hR hb))
  refine bodyPost_ret (results_cell_row rfl _ _ (w.heap.size + 1) U (FV ws sp gp (.slice B l.length d)) (0, 0) _ rfl PE.out Tryd.underlying31 rfl (by rw [FV_size ws HX.out]; kernel_rfl)) rfl ?_
  refine ⟨B, d, rfl, ?_, below_setRow (below_set B7.out (by omega)) (by omega) _⟩
  refine Kd.R_lower (Kd.R_mono (Kd.R_move (Kd.R_bound RR.out) (fun k hk => ?_)) (fun _ _ => trivial)) (by have := S4.out; simp; omega)
  have hkb := hk.2.1
  simp only [World.size_setCell] at hkb
  have := S4.out
  exact (setRow_other _ _ _ _ (by omega)).trans (Below.heap_setCell w7 _ _ k (by show k ≠ w.heap.size + 2; omega))
end Go.Proofs.YtkldhleiipfaaaaDoor.Q
