-- Joined by joinmods.py out of: QhandA26 QhandFace Qspecl01Ahead QhandClone
import Derived.Test.YtimkkjkgbbfgbaaGreatDoorQ0
import Derived.Test.YtimkkjkgbbfgbaaGreatDoorPure2
import Derived.Outline
import Derived.Lib.Hide
import Derived.BigRegion
import Derived.Laws.CopyRow
import Derived.Laws.Tables
import Derived.Laws.CopyOwn
import Derived.Lib.SliceRun
section
/- Arrays of 26 numbers: laws.toInt8A26, laws.eqInt8A26, by hand. -/
namespace Go.Proofs.YtimkkjkgbbfgbaaGreatDoor.Q
open Go.RowKit Go.Proofs.YtimkkjkgbbfgbaaGreatDoorW.PrintWords Go.Proofs.YtimkkjkgbbfgbaaGreatDoorW.PrintLast Go.Proofs.YtimkkjkgbbfgbaaGreatDoorW.PrintMore
open Go.Proofs.YtimkkjkgbbfgbaaGreatDoor.Pure
set_option linter.unusedVariables false

theorem two_blocks (w : World) (x y : Obj) : ((w.alloc x).alloc y).heap[w.heap.size]? = some x ∧ ((w.alloc x).alloc y).heap[w.heap.size + 1]? = some y := by
  refine ⟨?_, ?_⟩
  · rw [heap_alloc_old _ _ (by simp), heap_alloc_new]
  · have := heap_alloc_new (w.alloc x) y
    simpa using this
theorem three_blocks (w : World) (x y z : Obj) : (((w.alloc x).alloc y).alloc z).heap[w.heap.size]? = some x ∧ (((w.alloc x).alloc y).alloc z).heap[w.heap.size + 1]? = some y ∧ (((w.alloc x).alloc y).alloc z).heap[w.heap.size + 2]? = some z := by
  refine ⟨?_, ?_, ?_⟩
  · rw [heap_alloc_old _ _ (by simp; omega)]
    exact (two_blocks w x y).1
  · rw [heap_alloc_old _ _ (by simp)]
    exact (two_blocks w x y).2
  · have := heap_alloc_new ((w.alloc x).alloc y) z
    simpa [Nat.add_assoc] using this

def arr8 (xs : List Int) : Array Value := (xs.map (Value.int .i8)).toArray
theorem arr8_size (xs : List Int) : (arr8 xs).size = xs.length := by simp [arr8]
theorem arr8_get (xs : List Int) (i : Nat) (h : i < xs.length) : (arr8 xs)[i]? = some (.int .i8 (rd xs (i : Nat))) := by
  rw [rd_get _ _ h]
  simp [arr8, h]
theorem arr8_set (xs : List Int) (i : Nat) (x : Int) : (arr8 xs).setIfInBounds i (.int .i8 x) = arr8 (xs.set i x) := by
  simp [arr8, List.map_set]
def outA (xs : List Int) (k : Nat) : List Int := xs.take k ++ List.replicate (26 - k) 0

theorem outA_len (xs : List Int) (hx : xs.length = 26) (k : Nat) (hk : k ≤ 26) : (outA xs k).length = 26 := by
  unfold outA
  rw [List.length_append, List.length_take, List.length_replicate]
  omega
theorem outA_set (xs : List Int) (hx : xs.length = 26) (k : Nat) (hk : k < 26) : (outA xs k).set k (rd xs (k : Nat)) = outA xs (k + 1) := by
  unfold outA
  have h1 : (xs.take k).length = k := by rw [List.length_take]; omega
  rw [List.set_append_right _ _ (by omega), h1, Nat.sub_self, show 26 - k = (26 - (k + 1)) + 1 by omega, List.replicate_succ, List.set_cons_zero, rd_get _ _ (by omega), List.take_succ_eq_append_getElem (by omega), List.append_assoc]
  rfl
theorem outA_end (xs : List Int) (hx : xs.length = 26) : outA xs 26 = xs := by
  unfold outA
  rw [← hx, List.take_length]
  simp
/-- A block that holds an array: the array read as a whole, and another written over it. -/
theorem load_blk {w : World} {g : Nat} {t : TypeId} {xs : List Int} (h : w.heap[g]? = some (.cells (arr8 xs) t (0, 0))) (hx : xs.length = 26) :
    (loadCellsFrom ⟨g, 0, none⟩ 0 26 #[]).run Tryz.prog w = .ok (arr8 xs) w := by
  have := run_loadCells_list (P := Tryz.prog) (w := w) ⟨g, 0, none⟩ (arr8 xs).toList (fun j v hv => by
    have hadd : (⟨g, 0, none⟩ : Addr).add j = ⟨g, j, none⟩ := by unfold Addr.add; split <;> simp_all
    rw [hadd, blk_cell h j]
    simpa using hv)
  have hl : (arr8 xs).toList.length = 26 := by simp [arr8, hx]
  rw [hl] at this
  simpa [loadCells] using this

theorem store_blk {w : World} {g : Nat} {t : TypeId} {xs ys : List Int} (h : w.heap[g]? = some (.cells (arr8 ys) t (0, 0))) (hx : xs.length = 26) (hy : ys.length = 26) :
    (storeCells ⟨g, 0, none⟩ (arr8 xs).toList 0).run Tryz.prog w = .ok () (w.setRow g (arr8 xs)) := by
  have := run_storeCells_from (P := Tryz.prog) g t (arr8 xs).toList 0 (arr8 ys) w h (by simp [arr8, hx, hy]) (fun v hv => by
    simp [arr8] at hv
    obtain ⟨a, _, rfl⟩ := hv
    rfl)
  have e1 : (arr8 xs).toList.length = 26 := by simp [arr8, hx]
  simpa [e1, arr8, hx, hy] using this

end Go.Proofs.YtimkkjkgbbfgbaaGreatDoor.Q
end
section
/- Faces: laws.toFace, laws.eqFace, by hand, over a face's 26 widths as one list. -/
namespace Go.Proofs.YtimkkjkgbbfgbaaGreatDoor.Q
open Go.RowKit Go.Proofs.YtimkkjkgbbfgbaaGreatDoorW.PrintWords Go.Proofs.YtimkkjkgbbfgbaaGreatDoorW.PrintLast Go.Proofs.YtimkkjkgbbfgbaaGreatDoorW.PrintMore
open Go.Proofs.YtimkkjkgbbfgbaaGreatDoor.Pure
set_option linter.unusedVariables false
set_option linter.unusedSimpArgs false

/-- The cells of a face. -/
def FV (ws : List Int) (sp gp : Int) (v : Value) : Array Value := (ws.map (Value.int .i8) ++ [.int .i8 sp, .int .i8 gp, v]).toArray
theorem FV_size (ws : List Int) (hx : ws.length = 26) (sp gp : Int) (v : Value) : (FV ws sp gp v).size = 29 := by simp [FV, hx]
theorem FV_lt (ws : List Int) (hx : ws.length = 26) (sp gp : Int) (v : Value) (k : Nat) (h : k < 26) : (FV ws sp gp v)[k]? = some (.int .i8 (rd ws (k : Nat))) := by
  rw [rd_get _ _ (by omega)]
  simp [FV, List.getElem?_append_left, hx, h]
theorem FV_26 (ws : List Int) (hx : ws.length = 26) (sp gp : Int) (v : Value) : (FV ws sp gp v)[26]? = some (.int .i8 sp) := by
  simp [FV, List.getElem?_append_right, hx]
theorem FV_27 (ws : List Int) (hx : ws.length = 26) (sp gp : Int) (v : Value) : (FV ws sp gp v)[27]? = some (.int .i8 gp) := by
  simp [FV, List.getElem?_append_right, hx]
theorem FV_28 (ws : List Int) (hx : ws.length = 26) (sp gp : Int) (v : Value) : (FV ws sp gp v)[28]? = some v := by
  simp [FV, List.getElem?_append_right, hx]
theorem FV_set26 (ws : List Int) (hx : ws.length = 26) (sp gp x : Int) (v : Value) : (FV ws sp gp v).setIfInBounds 26 (.int .i8 x) = FV ws x gp v := by
  simp [FV, List.set_append_right, hx]
theorem FV_set27 (ws : List Int) (hx : ws.length = 26) (sp gp x : Int) (v : Value) : (FV ws sp gp v).setIfInBounds 27 (.int .i8 x) = FV ws sp x v := by
  simp [FV, List.set_append_right, hx]
theorem FV_set28 (ws : List Int) (hx : ws.length = 26) (sp gp : Int) (v x : Value) : (FV ws sp gp v).setIfInBounds 28 x = FV ws sp gp x := by
  simp [FV, List.set_append_right, hx]
theorem addr_at (g j : Nat) : (⟨g, 0, none⟩ : Addr).add j = ⟨g, j, none⟩ := by unfold Addr.add; split <;> simp_all
theorem loadA {w : World} {g : Nat} {t : TypeId} {ws : List Int} {sp gp : Int} {v : Value} (h : w.heap[g]? = some (.cells (FV ws sp gp v) t (0, 0))) (hx : ws.length = 26) {n : Nat} (hn : n = 26) :
    (loadCellsFrom ⟨g, 0, none⟩ 0 n #[]).run Tryz.prog w = .ok (arr8 ws) w := by
  subst hn
  have := run_loadCells_list (P := Tryz.prog) (w := w) ⟨g, 0, none⟩ (arr8 ws).toList (fun j x hv => by
    have hj : j < 26 := by
      have := (List.getElem?_eq_some_iff.1 hv).1
      simpa [arr8, hx] using this
    rw [addr_at, blk_cell h j, FV_lt ws hx sp gp v j hj, ← hv, ← arr8_get ws j (by omega)]
    simp)
  have hl : (arr8 ws).toList.length = 26 := by simp [arr8, hx]
  rw [hl] at this
  simpa [loadCells] using this
theorem loadF {w : World} {g : Nat} {t : TypeId} {ws : List Int} {sp gp : Int} {v : Value} (h : w.heap[g]? = some (.cells (FV ws sp gp v) t (0, 0))) (hx : ws.length = 26) {n : Nat} (hn : n = 29) :
    (loadCellsFrom ⟨g, 0, none⟩ 0 n #[]).run Tryz.prog w = .ok (FV ws sp gp v) w := by
  subst hn
  have := run_loadCells_list (P := Tryz.prog) (w := w) ⟨g, 0, none⟩ (FV ws sp gp v).toList (fun j x hv => by
    rw [addr_at, blk_cell h j]
    simpa using hv)
  have hl : (FV ws sp gp v).toList.length = 29 := by simp [FV, hx]
  rw [hl] at this
  simpa [loadCells] using this
theorem storeA {w : World} {g : Nat} {t : TypeId} {ws xs : List Int} {sp gp : Int} {v : Value} (h : w.heap[g]? = some (.cells (FV ws sp gp v) t (0, 0))) (hw : ws.length = 26) (hx : xs.length = 26) :
    (storeCells ⟨g, 0, none⟩ (arr8 xs).toList 0).run Tryz.prog w = .ok () (w.setRow g (FV xs sp gp v)) := by
  have := run_storeCells_at (P := Tryz.prog) g 0 t (arr8 xs).toList 0 (FV ws sp gp v) w h (by simp [arr8, FV, hx, hw]) (fun v hv => by
    simp [arr8] at hv
    obtain ⟨a, _, rfl⟩ := hv
    rfl)
  rw [this]
  congr 2
  have e1 : (arr8 xs).toList.length = 26 := by simp [arr8, hx]
  rw [e1]
  simp [arr8, FV, List.drop_append, hw]
theorem storeF {w : World} {g : Nat} {t : TypeId} {ws xs : List Int} {sp gp sp' gp' : Int} {v : Value} {A : Option Addr} {n c : Nat} (h : w.heap[g]? = some (.cells (FV ws sp gp v) t (0, 0))) (hw : ws.length = 26) (hx : xs.length = 26) :
    (storeCells ⟨g, 0, none⟩ (FV xs sp' gp' (.slice A n c)).toList 0).run Tryz.prog w = .ok () (w.setRow g (FV xs sp' gp' (.slice A n c))) := by
  have := run_storeCells_from (P := Tryz.prog) g t (FV xs sp' gp' (.slice A n c)).toList 0 (FV ws sp gp v) w h (by simp [FV, hx, hw]) (fun v hv => by
    simp [FV] at hv
    rcases hv with ⟨a, _, rfl⟩ | rfl | rfl | rfl <;> rfl)
  simpa using this

theorem rd46_get (xs : List S33) (k : Nat) (h : k < xs.length) : rd_T33 xs (k : Int) = xs[k] := by
  unfold rd_T33
  simp [List.getD_eq_getElem?_getD, h]

def Z26 : List Int := List.replicate 26 0
theorem Z26_len : Z26.length = 26 := rfl
def ZF : Array Value := FV Z26 0 0 (.slice none 0 0)

end Go.Proofs.YtimkkjkgbbfgbaaGreatDoor.Q
end
section
-- WRITTEN BY A PROGRAM OF THIS SESSION (xprint.py, which runs the kit's printer with changes). Lean checks it.
namespace Go.Proofs.YtimkkjkgbbfgbaaGreatDoor.Q
open Go.RowKit Go.Proofs.YtimkkjkgbbfgbaaGreatDoorW.PrintWords Go.Proofs.YtimkkjkgbbfgbaaGreatDoorW.PrintLast Go.Proofs.YtimkkjkgbbfgbaaGreatDoorW.PrintMore
set_option linter.unusedVariables false
set_option linter.unusedSimpArgs false
attribute [local go_sem] max2_int min2_int max_two min_two max_three min_three max_four min_four   -- for this text's walks alone
/-! ### spec_l01Ahead: function 46 -/
def spec_l01Ahead.f (a0_0 : Int) (a0_1 : Int) (a0_2 : Int) (a1_0 : Int) (a1_1 : Int) (a1_2 : Int) : Option (Bool) := if a0_0 < a1_0 then (some true) else (if a0_0 = a1_0 then (some (decide (a0_1 < a1_1))) else (some false))
set_option maxHeartbeats 8000000 in
set_option maxRecDepth 100000 in
theorem spec_l01Ahead.calls (a0_0 : Int) (a0_1 : Int) (a0_2 : Int) (a1_0 : Int) (a1_1 : Int) (a1_2 : Int) (r : Bool) (w : World) (h : spec_l01Ahead.f a0_0 a0_1 a0_2 a1_0 a1_1 a1_2 = some r) :
    Calls Tryz.prog 46 #[.agg #[.int .u8 a0_0, .int .u8 a0_1, .int .i8 a0_2], .agg #[.int .u8 a1_0, .int .u8 a1_1, .int .i8 a1_2]] w fun e w' => e = .returned (.bool r) ∧ Below w.heap.size w w' := by
  have hu33 := Tryz.underlying33
  have HB := Aside0.mk (Below.refl w.heap.size w)
  have H : (if a0_0 < a1_0 then (some true) else (if a0_0 = a1_0 then (some (decide (a0_1 < a1_1))) else (some false))) = some r := h
  clear h
  by_cases c3 : a0_0 < a1_0
  · rw [if_pos c3] at H
    have c3b0 : decide (a0_0 < a1_0) = true := decide_eq_true c3
    clear c3
    obtain rfl := Option.some.inj H
    go_enter Tryz.func46, Tryz.ntmps46
    go_wp2_with (first | ((with_reducible refine gate_dst (N := 2) rfl ?_); refine box_event ?hg (N := 2) ?hd (cs := #[.int .u8 a0_0, .int .u8 a0_1, .int .i8 a0_2]) (t := 33) ?hr ?_; (case hd => rfl); (case hg => rfl); (case hr => first | (go_simp; done) | (go_simp; rfl)); intro gb101 hg w4 hbox hb; have n0_ := Aside0.mk (below_step (by repeat (first | (with_reducible first | exact HB.out | apply below_alloc | apply pw_below_drewN | apply below_drew1) | exact HB.out)) hb); have n1_ := Aside0.mk (hbox); have n2_ := Aside0.mk ((by rw [hg]; exact (below_size (by repeat (first | (with_reducible first | exact HB.out | apply below_alloc | apply pw_below_drewN | apply below_drew1) | exact HB.out))) : w.heap.size ≤ gb101)); have n3_ := Aside0.mk ((by rw [hg]; exact (below_size (by repeat (first | (with_reducible first | exact HB.out | apply below_alloc | apply pw_below_drewN | apply below_drew1) | exact HB.out))) : w.heap.size ≤ gb101)); clear HB; have HB := n0_; have BK101 := n1_; have GW101 := n2_; have GE101 := n3_; clear n0_ n1_ n2_ n3_; clear hb hbox hg) | ((with_reducible refine gate_dst (N := 3) rfl ?_); refine box_event ?hg (N := 3) ?hd (cs := #[.int .u8 a1_0, .int .u8 a1_1, .int .i8 a1_2]) (t := 33) ?hr ?_; (case hd => rfl); (case hg => rfl); (case hr => first | (go_simp; done) | (go_simp; rfl)); intro gb102 hg w5 hbox hb; have n0_ := Aside0.mk (blk_below (g := gb101) (o := .cells #[.int .u8 a0_0, .int .u8 a0_1, .int .i8 a0_2] 33 (0, 0)) (by (with_reducible repeat (first | refine blk_drewN ?_ _ | refine blk_drew ?_ | refine blk_alloc ?_ _)); exact BK101.out) hb); have n1_ := Aside0.mk (below_step (by repeat (first | (with_reducible first | exact HB.out | apply below_alloc | apply pw_below_drewN | apply below_drew1 | refine below_set ?_ GE101.out) | exact HB.out)) hb); have n2_ := Aside0.mk (hbox); have n3_ := Aside0.mk ((by rw [hg]; exact (below_size (by repeat (first | (with_reducible first | exact HB.out | apply below_alloc | apply pw_below_drewN | apply below_drew1 | refine below_set ?_ GE101.out) | exact HB.out))) : w.heap.size ≤ gb102)); have n4_ := Aside0.mk ((by rw [hg]; exact (below_size (by repeat (first | (with_reducible first | exact HB.out | apply below_alloc | apply pw_below_drewN | apply below_drew1 | refine below_set ?_ GE101.out) | exact HB.out))) : w.heap.size ≤ gb102)); have n5_ := Aside0.mk ((by rw [hg]; exact Nat.ne_of_lt (blk_lt (g := gb101) (o := .cells #[.int .u8 a0_0, .int .u8 a0_1, .int .i8 a0_2] 33 (0, 0)) (by (with_reducible repeat (first | refine blk_drewN ?_ _ | refine blk_drew ?_ | refine blk_alloc ?_ _)); exact BK101.out)) : gb101 ≠ gb102)); have n6_ := Aside0.mk ((by rw [hg]; exact Nat.ne_of_gt (blk_lt (g := gb101) (o := .cells #[.int .u8 a0_0, .int .u8 a0_1, .int .i8 a0_2] 33 (0, 0)) (by (with_reducible repeat (first | refine blk_drewN ?_ _ | refine blk_drew ?_ | refine blk_alloc ?_ _)); exact BK101.out)) : gb102 ≠ gb101)); clear BK101; clear HB; have BK101 := n0_; have HB := n1_; have BK102 := n2_; have GW102 := n3_; have GE102 := n4_; have NB101_102 := n5_; have NB102_101 := n6_; clear n0_ n1_ n2_ n3_ n4_ n5_ n6_; clear hb hbox hg; have hnb6 := NB101_102.out; have hnc6 := NB102_101.out; have hcz7_0 : w5.cell? ⟨gb101, 0, none⟩ = some (.int .u8 a0_0) := (blk_cell BK101.out 0).trans rfl; have hcz7_1 : w5.cell? ⟨gb101, 1, none⟩ = some (.int .u8 a0_1) := (blk_cell BK101.out 1).trans rfl; have hcz7_2 : w5.cell? ⟨gb101, 2, none⟩ = some (.int .i8 a0_2) := (blk_cell BK101.out 2).trans rfl; have hfz7_0 := blk_frozen BK101.out 0; have hfz7_1 := blk_frozen BK101.out 1; have hfz7_2 := blk_frozen BK101.out 2; have hcz8_0 : w5.cell? ⟨gb102, 0, none⟩ = some (.int .u8 a1_0) := (blk_cell BK102.out 0).trans rfl; have hcz8_1 : w5.cell? ⟨gb102, 1, none⟩ = some (.int .u8 a1_1) := (blk_cell BK102.out 1).trans rfl; have hcz8_2 : w5.cell? ⟨gb102, 2, none⟩ = some (.int .i8 a1_2) := (blk_cell BK102.out 2).trans rfl; have hfz8_0 := blk_frozen BK102.out 0; have hfz8_1 := blk_frozen BK102.out 1; have hfz8_2 := blk_frozen BK102.out 2))
    go_ret
    exact ⟨by first | rfl | (simp [errW_none, errW_some] <;> rfl) | (simp [*, errW_none, errW_some] <;> rfl), by repeat (first | (with_reducible first | exact HB.out | apply below_alloc | apply pw_below_drewN | apply below_drew1 | refine below_set ?_ GE101.out | refine below_set ?_ GE102.out) | exact HB.out)⟩
  · rw [if_neg c3] at H
    have c3b0 : decide (a0_0 < a1_0) = false := decide_eq_false c3
    clear c3
    by_cases c9 : a0_0 = a1_0
    · rw [if_pos c9] at H
      have c9b0 : (a0_0 == a1_0) = true := beq_iff_eq.mpr c9
      have c9b1 : (a0_0 != a1_0) = false := bne_eq_false_iff_eq.mpr c9
      clear c9
      obtain rfl := Option.some.inj H
      go_enter Tryz.func46, Tryz.ntmps46
      go_wp2_with (first | ((with_reducible refine gate_dst (N := 2) rfl ?_); refine box_event ?hg (N := 2) ?hd (cs := #[.int .u8 a0_0, .int .u8 a0_1, .int .i8 a0_2]) (t := 33) ?hr ?_; (case hd => rfl); (case hg => rfl); (case hr => first | (go_simp; done) | (go_simp; rfl)); intro gb101 hg w10 hbox hb; have n0_ := Aside0.mk (below_step (by repeat (first | (with_reducible first | exact HB.out | apply below_alloc | apply pw_below_drewN | apply below_drew1) | exact HB.out)) hb); have n1_ := Aside0.mk (hbox); have n2_ := Aside0.mk ((by rw [hg]; exact (below_size (by repeat (first | (with_reducible first | exact HB.out | apply below_alloc | apply pw_below_drewN | apply below_drew1) | exact HB.out))) : w.heap.size ≤ gb101)); have n3_ := Aside0.mk ((by rw [hg]; exact (below_size (by repeat (first | (with_reducible first | exact HB.out | apply below_alloc | apply pw_below_drewN | apply below_drew1) | exact HB.out))) : w.heap.size ≤ gb101)); clear HB; have HB := n0_; have BK101 := n1_; have GW101 := n2_; have GE101 := n3_; clear n0_ n1_ n2_ n3_; clear hb hbox hg) | ((with_reducible refine gate_dst (N := 3) rfl ?_); refine box_event ?hg (N := 3) ?hd (cs := #[.int .u8 a1_0, .int .u8 a1_1, .int .i8 a1_2]) (t := 33) ?hr ?_; (case hd => rfl); (case hg => rfl); (case hr => first | (go_simp; done) | (go_simp; rfl)); intro gb102 hg w11 hbox hb; have n0_ := Aside0.mk (blk_below (g := gb101) (o := .cells #[.int .u8 a0_0, .int .u8 a0_1, .int .i8 a0_2] 33 (0, 0)) (by (with_reducible repeat (first | refine blk_drewN ?_ _ | refine blk_drew ?_ | refine blk_alloc ?_ _)); exact BK101.out) hb); have n1_ := Aside0.mk (below_step (by repeat (first | (with_reducible first | exact HB.out | apply below_alloc | apply pw_below_drewN | apply below_drew1 | refine below_set ?_ GE101.out) | exact HB.out)) hb); have n2_ := Aside0.mk (hbox); have n3_ := Aside0.mk ((by rw [hg]; exact (below_size (by repeat (first | (with_reducible first | exact HB.out | apply below_alloc | apply pw_below_drewN | apply below_drew1 | refine below_set ?_ GE101.out) | exact HB.out))) : w.heap.size ≤ gb102)); have n4_ := Aside0.mk ((by rw [hg]; exact (below_size (by repeat (first | (with_reducible first | exact HB.out | apply below_alloc | apply pw_below_drewN | apply below_drew1 | refine below_set ?_ GE101.out) | exact HB.out))) : w.heap.size ≤ gb102)); have n5_ := Aside0.mk ((by rw [hg]; exact Nat.ne_of_lt (blk_lt (g := gb101) (o := .cells #[.int .u8 a0_0, .int .u8 a0_1, .int .i8 a0_2] 33 (0, 0)) (by (with_reducible repeat (first | refine blk_drewN ?_ _ | refine blk_drew ?_ | refine blk_alloc ?_ _)); exact BK101.out)) : gb101 ≠ gb102)); have n6_ := Aside0.mk ((by rw [hg]; exact Nat.ne_of_gt (blk_lt (g := gb101) (o := .cells #[.int .u8 a0_0, .int .u8 a0_1, .int .i8 a0_2] 33 (0, 0)) (by (with_reducible repeat (first | refine blk_drewN ?_ _ | refine blk_drew ?_ | refine blk_alloc ?_ _)); exact BK101.out)) : gb102 ≠ gb101)); clear BK101; clear HB; have BK101 := n0_; have HB := n1_; have BK102 := n2_; have GW102 := n3_; have GE102 := n4_; have NB101_102 := n5_; have NB102_101 := n6_; clear n0_ n1_ n2_ n3_ n4_ n5_ n6_; clear hb hbox hg; have hnb12 := NB101_102.out; have hnc12 := NB102_101.out; have hcz13_0 : w11.cell? ⟨gb101, 0, none⟩ = some (.int .u8 a0_0) := (blk_cell BK101.out 0).trans rfl; have hcz13_1 : w11.cell? ⟨gb101, 1, none⟩ = some (.int .u8 a0_1) := (blk_cell BK101.out 1).trans rfl; have hcz13_2 : w11.cell? ⟨gb101, 2, none⟩ = some (.int .i8 a0_2) := (blk_cell BK101.out 2).trans rfl; have hfz13_0 := blk_frozen BK101.out 0; have hfz13_1 := blk_frozen BK101.out 1; have hfz13_2 := blk_frozen BK101.out 2; have hcz14_0 : w11.cell? ⟨gb102, 0, none⟩ = some (.int .u8 a1_0) := (blk_cell BK102.out 0).trans rfl; have hcz14_1 : w11.cell? ⟨gb102, 1, none⟩ = some (.int .u8 a1_1) := (blk_cell BK102.out 1).trans rfl; have hcz14_2 : w11.cell? ⟨gb102, 2, none⟩ = some (.int .i8 a1_2) := (blk_cell BK102.out 2).trans rfl; have hfz14_0 := blk_frozen BK102.out 0; have hfz14_1 := blk_frozen BK102.out 1; have hfz14_2 := blk_frozen BK102.out 2))
      go_ret
      exact ⟨by first | rfl | (simp [errW_none, errW_some] <;> rfl) | (simp [*, errW_none, errW_some] <;> rfl), by repeat (first | (with_reducible first | exact HB.out | apply below_alloc | apply pw_below_drewN | apply below_drew1 | refine below_set ?_ GE101.out | refine below_set ?_ GE102.out) | exact HB.out)⟩
    · rw [if_neg c9] at H
      have c9b0 : (a0_0 == a1_0) = false := beq_eq_false_iff_ne.mpr c9
      have c9b1 : (a0_0 != a1_0) = true := bne_iff_ne.mpr c9
      obtain rfl := Option.some.inj H
      go_enter Tryz.func46, Tryz.ntmps46
      go_wp2_with (first | ((with_reducible refine gate_dst (N := 2) rfl ?_); refine box_event ?hg (N := 2) ?hd (cs := #[.int .u8 a0_0, .int .u8 a0_1, .int .i8 a0_2]) (t := 33) ?hr ?_; (case hd => rfl); (case hg => rfl); (case hr => first | (go_simp; done) | (go_simp; rfl)); intro gb101 hg w15 hbox hb; have n0_ := Aside0.mk (below_step (by repeat (first | (with_reducible first | exact HB.out | apply below_alloc | apply pw_below_drewN | apply below_drew1) | exact HB.out)) hb); have n1_ := Aside0.mk (hbox); have n2_ := Aside0.mk ((by rw [hg]; exact (below_size (by repeat (first | (with_reducible first | exact HB.out | apply below_alloc | apply pw_below_drewN | apply below_drew1) | exact HB.out))) : w.heap.size ≤ gb101)); have n3_ := Aside0.mk ((by rw [hg]; exact (below_size (by repeat (first | (with_reducible first | exact HB.out | apply below_alloc | apply pw_below_drewN | apply below_drew1) | exact HB.out))) : w.heap.size ≤ gb101)); clear HB; have HB := n0_; have BK101 := n1_; have GW101 := n2_; have GE101 := n3_; clear n0_ n1_ n2_ n3_; clear hb hbox hg) | ((with_reducible refine gate_dst (N := 3) rfl ?_); refine box_event ?hg (N := 3) ?hd (cs := #[.int .u8 a1_0, .int .u8 a1_1, .int .i8 a1_2]) (t := 33) ?hr ?_; (case hd => rfl); (case hg => rfl); (case hr => first | (go_simp; done) | (go_simp; rfl)); intro gb102 hg w16 hbox hb; have n0_ := Aside0.mk (blk_below (g := gb101) (o := .cells #[.int .u8 a0_0, .int .u8 a0_1, .int .i8 a0_2] 33 (0, 0)) (by (with_reducible repeat (first | refine blk_drewN ?_ _ | refine blk_drew ?_ | refine blk_alloc ?_ _)); exact BK101.out) hb); have n1_ := Aside0.mk (below_step (by repeat (first | (with_reducible first | exact HB.out | apply below_alloc | apply pw_below_drewN | apply below_drew1 | refine below_set ?_ GE101.out) | exact HB.out)) hb); have n2_ := Aside0.mk (hbox); have n3_ := Aside0.mk ((by rw [hg]; exact (below_size (by repeat (first | (with_reducible first | exact HB.out | apply below_alloc | apply pw_below_drewN | apply below_drew1 | refine below_set ?_ GE101.out) | exact HB.out))) : w.heap.size ≤ gb102)); have n4_ := Aside0.mk ((by rw [hg]; exact (below_size (by repeat (first | (with_reducible first | exact HB.out | apply below_alloc | apply pw_below_drewN | apply below_drew1 | refine below_set ?_ GE101.out) | exact HB.out))) : w.heap.size ≤ gb102)); have n5_ := Aside0.mk ((by rw [hg]; exact Nat.ne_of_lt (blk_lt (g := gb101) (o := .cells #[.int .u8 a0_0, .int .u8 a0_1, .int .i8 a0_2] 33 (0, 0)) (by (with_reducible repeat (first | refine blk_drewN ?_ _ | refine blk_drew ?_ | refine blk_alloc ?_ _)); exact BK101.out)) : gb101 ≠ gb102)); have n6_ := Aside0.mk ((by rw [hg]; exact Nat.ne_of_gt (blk_lt (g := gb101) (o := .cells #[.int .u8 a0_0, .int .u8 a0_1, .int .i8 a0_2] 33 (0, 0)) (by (with_reducible repeat (first | refine blk_drewN ?_ _ | refine blk_drew ?_ | refine blk_alloc ?_ _)); exact BK101.out)) : gb102 ≠ gb101)); clear BK101; clear HB; have BK101 := n0_; have HB := n1_; have BK102 := n2_; have GW102 := n3_; have GE102 := n4_; have NB101_102 := n5_; have NB102_101 := n6_; clear n0_ n1_ n2_ n3_ n4_ n5_ n6_; clear hb hbox hg; have hnb17 := NB101_102.out; have hnc17 := NB102_101.out; have hcz18_0 : w16.cell? ⟨gb101, 0, none⟩ = some (.int .u8 a0_0) := (blk_cell BK101.out 0).trans rfl; have hcz18_1 : w16.cell? ⟨gb101, 1, none⟩ = some (.int .u8 a0_1) := (blk_cell BK101.out 1).trans rfl; have hcz18_2 : w16.cell? ⟨gb101, 2, none⟩ = some (.int .i8 a0_2) := (blk_cell BK101.out 2).trans rfl; have hfz18_0 := blk_frozen BK101.out 0; have hfz18_1 := blk_frozen BK101.out 1; have hfz18_2 := blk_frozen BK101.out 2; have hcz19_0 : w16.cell? ⟨gb102, 0, none⟩ = some (.int .u8 a1_0) := (blk_cell BK102.out 0).trans rfl; have hcz19_1 : w16.cell? ⟨gb102, 1, none⟩ = some (.int .u8 a1_1) := (blk_cell BK102.out 1).trans rfl; have hcz19_2 : w16.cell? ⟨gb102, 2, none⟩ = some (.int .i8 a1_2) := (blk_cell BK102.out 2).trans rfl; have hfz19_0 := blk_frozen BK102.out 0; have hfz19_1 := blk_frozen BK102.out 1; have hfz19_2 := blk_frozen BK102.out 2))
      go_ret
      exact ⟨by first | rfl | (simp [errW_none, errW_some] <;> rfl) | (simp [*, errW_none, errW_some] <;> rfl), by repeat (first | (with_reducible first | exact HB.out | apply below_alloc | apply pw_below_drewN | apply below_drew1 | refine below_set ?_ GE101.out | refine below_set ?_ GE102.out) | exact HB.out)⟩

end Go.Proofs.YtimkkjkgbbfgbaaGreatDoor.Q
end
section
/- slices.Clone of pairs, by hand. -/
namespace Go.Proofs.YtimkkjkgbbfgbaaGreatDoor.Q
open Go.RowKit Go.Proofs.YtimkkjkgbbfgbaaGreatDoorW.PrintWords Go.Proofs.YtimkkjkgbbfgbaaGreatDoorW.PrintLast Go.Proofs.YtimkkjkgbbfgbaaGreatDoorW.PrintMore
open Go.Proofs.YtimkkjkgbbfgbaaGreatDoor.Pure
set_option linter.unusedVariables false
set_option linter.unusedSimpArgs false

theorem info33' : (Tryz.prog.info? 33).map (fun i => (i.zero, i.size, i.bytes)) = some (some (.agg #[.int .u8 0, .int .u8 0, .int .i8 0]), 3, 3) := by kernel_rfl

set_option maxHeartbeats 2000000 in
theorem cloneS (ad : Addr) (c0 : Nat) (l0 : List S33) (w : World) (hr0 : Kd.C k33 w (some ad) l0.length l0) (hc0 : l0.length ≤ c0) (hl2 : l0.length ≤ 1048576) :
    Calls Tryz.prog 39 #[.slice (some ad) l0.length c0] w fun e w' => ∃ v0_ : Value, e = .returned (v0_) ∧ Kd.R k33 33 w' w.heap.size (fun _ => True) v0_ l0 ∧ Below w.heap.size w w' := by
  have HR := Lib.hid hr0
  clear hr0
  have hn := fun (W : World) => Lib.run_eql_slice_nil (P := Tryz.prog) W 26 33 (some ad) l0.length c0 0 0 Tryz.underlying26
  simp only [Option.isNone_some] at hn
  go_enter Tryz.func39, Tryz.ntmps39
  go_wp2_with (first | ((with_reducible refine gate_dst (N := 5) rfl ?_); refine Kd.R_lit k33 _ 33 ?hg (N := 5) ?hd (xs := ([] : List S33)) (inner := []) (ok := fun _ => True) (okp := fun _ => True) ?hr ?hp (fun _ hk => hk) trivial (Below.refl _ _) (Nat.le_refl _) (by simp) ?_; (case hd => rfl); (case hg => rfl); (case hr => first | (go_simp; done) | (go_simp; rfl)); (case hp => exact (Reps.none _ _)); intro v0 w7 ho8 hb hg_ hnew_; clear hg_ hnew_; have HO := Lib.hid ho8; have HB := Lib.hid hb; have HC := Lib.hid (Kd.C_below HR.out hb); clear ho8 hb) | ((with_reducible refine gate_builtin (b := .append) (xs := #[.tmp 5, .tmp 6]) rfl ?_); at_builtin; refine Kd.R_append_rows k33 (w0 := w) w.heap.size rfl (.tmp 5) (.tmp 6) 26 33 (.agg #[.int .u8 0, .int .u8 0, .int .i8 0]) 3 rfl Tryz.underlying26 info33' rfl (by decide) (by omega) v0 [] l0 _ _ _ (fun _ => True) (fun _ => False) rfl rfl ?aO ?aR (fun _ _ h => h) (fun _ h => h.elim) ?aF ?aB ?aS ?aL ?_; (case aO => exact HO.out); (case aR => exact HC.out); (case aF => exact (fun _ _ => trivial)); (case aB => exact HB.out); (case aS => exact HB.out.size); (case aL => simp; omega); intro v2 w2 ho hb hg hat; have HR4 := Lib.hid ho; have HW4 := Lib.hid hb; clear ho hb hg hat))
  go_ret
  exact ⟨_, rfl, HR4.out, HW4.out⟩
theorem cloneN (c0 : Nat) (w : World) :
    Calls Tryz.prog 39 #[.slice none 0 c0] w fun e w' => ∃ v0_ : Value, e = .returned (v0_) ∧ Kd.R k33 33 w' w.heap.size (fun _ => True) v0_ [] ∧ Below w.heap.size w w' := by
  have hn := fun (W : World) => Lib.run_eql_slice_nil (P := Tryz.prog) W 26 33 none 0 c0 0 0 Tryz.underlying26
  simp only [Option.isNone_none] at hn
  go_enter Tryz.func39, Tryz.ntmps39
  go_wp2
  go_ret
  exact ⟨_, rfl, Kd.R_mono (Kd.R_nil _ _ _ _ (fun _ => True)) (fun _ h => h), Below.refl _ _⟩
theorem cloneC (A : Option Addr) (c0 : Nat) (l0 : List S33) (w : World) (hr0 : Kd.C k33 w A l0.length l0) (hc0 : l0.length ≤ c0) (hl2 : l0.length ≤ 1048576) :
    Calls Tryz.prog 39 #[.slice A l0.length c0] w fun e w' => ∃ B d, e = .returned (.slice B l0.length d) ∧ Kd.R k33 33 w' w.heap.size (fun _ => True) (.slice B l0.length d) l0 ∧ Below w.heap.size w w' := by
  have key : Calls Tryz.prog 39 #[.slice A l0.length c0] w fun e w' => ∃ v0_ : Value, e = .returned (v0_) ∧ Kd.R k33 33 w' w.heap.size (fun _ => True) v0_ l0 ∧ Below w.heap.size w w' := by
    cases A with
    | some ad => exact cloneS ad c0 l0 w hr0 hc0 hl2
    | none =>
      have h0 : l0.length = 0 := by
        rcases Nat.eq_zero_or_pos l0.length with h | h
        · exact h
        · obtain ⟨ad, e, _⟩ := hr0.2.2 h
          cases e
      have : l0 = [] := List.length_eq_zero_iff.1 h0
      subst this
      exact cloneN c0 w
  refine key.mono ?_
  rintro e w' ⟨v, rfl, hR, hb⟩
  obtain ⟨B, d, rfl⟩ := Kd.R_slice hR
  exact ⟨B, d, rfl, hR, hb⟩
end Go.Proofs.YtimkkjkgbbfgbaaGreatDoor.Q
end
