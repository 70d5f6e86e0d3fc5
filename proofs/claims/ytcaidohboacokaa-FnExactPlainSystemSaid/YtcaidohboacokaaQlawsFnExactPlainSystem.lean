-- WRITTEN BY A PROGRAM OF THIS SESSION (xprint.py, which runs the kit's printer with changes). Lean checks it.
import Derived.Test.YtcaidohboacokaaQ0
import Derived.Test.YtcaidohboacokaaQhandSpecPlain
import Derived.Test.YtcaidohboacokaaQimplPlainSystem
import Derived.Test.YtcaidohboacokaaQLawH
import Derived.Test.YtcaidohboacokaaQLawM
namespace Go.Proofs.Ytcaidohboacokaa.Q
open Go.RowKit Go.Proofs.YtcaidohboacokaaW.PrintWords Go.Proofs.YtcaidohboacokaaW.PrintLast Go.Proofs.YtcaidohboacokaaW.PrintMore
set_option linter.unusedVariables false
set_option linter.unusedSimpArgs false
attribute [local go_sem] max2_int min2_int max_two min_two max_three min_three max_four min_four   -- for this text's walks alone
/-! ### laws_FnExactPlainSystem: function 6 -/
mutual
def laws_FnExactPlainSystem.j0 : Nat → Int → Int → Bool → List (S113) → List (S59) → List (S58) → List (S59) → List (S58) → List (S59) → List (S58) → List (S59) → Option (Bool)
  | 0, _, _, _, _, _, _, _, _, _, _, _ => none
  | k + 1, x5, x8, x40, x320000, x320001, x335000, x335001, x342000, x342001, x350000, x350001 => if x40 = true then (some false) else ((laws_toSystem.f k x320000 x320001).bind fun bt351 => ((laws_eqSystem.f k x342000 x342001 bt351.1 bt351.2).bind fun t357 => (if t357 = true then ((laws_markSystem.f k x342000 x342001 1).bind fun bt358 => (if bt358.1 < 0 then (laws_FnExactPlainSystem.j1 k x5 true x320000 x320001 x335000 x335001 x350000 x350001) else ((laws_eqSystem.f k x350000 x350001 x335000 x335001).bind fun t361 => (if t361 = true then (laws_FnExactPlainSystem.j1 k x5 (x8 != x5) x320000 x320001 x335000 x335001 x350000 x350001) else (laws_FnExactPlainSystem.j1 k x5 true x320000 x320001 x335000 x335001 x350000 x350001))))) else (some false))))
def laws_FnExactPlainSystem.j1 : Nat → Int → Bool → List (S113) → List (S59) → List (S58) → List (S59) → List (S58) → List (S59) → Option (Bool)
  | 0, _, _, _, _, _, _, _, _ => none
  | k + 1, x5, x61, x320000, x320001, x335000, x335001, x350000, x350001 => if x61 = true then (some false) else ((laws_markSystem.f k x350000 x350001 1).bind fun bt362 => ((laws_heldSystem.f k bt362.2.1 bt362.2.2 1).bind fun t365 => (if t365 < 0 then (some false) else (if t365 = bt362.1 then ((laws_toSystem.f k x320000 x320001).bind fun bt366 => ((impl_PlainSystem.f bt366.1 bt366.2).bind fun bt372 => ((laws_eqSystem.f k bt372.1 bt372.2.1 x335000 x335001).bind fun t380 => (if t380 = true then (laws_FnExactPlainSystem.j2 k bt362.1 (bt372.2.2 != x5) bt362.2.1 bt362.2.2) else (laws_FnExactPlainSystem.j2 k bt362.1 true bt362.2.1 bt362.2.2))))) else (some false)))))
def laws_FnExactPlainSystem.j2 : Nat → Int → Bool → List (S58) → List (S59) → Option (Bool)
  | 0, _, _, _, _ => none
  | k + 1, x10, x87, x350000, x350001 => if x87 = true then (some false) else ((laws_heldSystem.f k x350000 x350001 1).bind fun t381 => (if t381 < 0 then (some false) else (if t381 = x10 then (some true) else (some false))))
end
def laws_FnExactPlainSystem.f (k : Nat) (l0_0 : List (S113)) (l0_1 : List (S59)) : Option (Bool) := (laws_szSystem.f l0_0 l0_1 1048576).bind fun t320 => (if t320 < 0 then (some true) else ((laws_toSystem.f k l0_0 l0_1).bind fun bt321 => ((spec_PlainSystem.f bt321.1 bt321.2).bind fun bt327 => ((laws_toSystem.f k l0_0 l0_1).bind fun bt335 => ((impl_PlainSystem.f bt335.1 bt335.2).bind fun bt342 => ((laws_eqSystem.f k bt342.1 bt342.2.1 bt327.1 bt327.2.1).bind fun t350 => (if t350 = true then (laws_FnExactPlainSystem.j0 k bt327.2.2 bt342.2.2 (bt342.2.2 != bt327.2.2) l0_0 l0_1 bt327.1 bt327.2.1 bt335.1 bt335.2 bt342.1 bt342.2.1) else (laws_FnExactPlainSystem.j0 k bt327.2.2 bt342.2.2 true l0_0 l0_1 bt327.1 bt327.2.1 bt335.1 bt335.2 bt342.1 bt342.2.1))))))))
theorem laws_FnExactPlainSystem.mono_l : ∀ k, (∀ y0 y1 y2 y3 y4 y5 y6 y7 y8 y9 y10, LeO (laws_FnExactPlainSystem.j0 k y0 y1 y2 y3 y4 y5 y6 y7 y8 y9 y10) (laws_FnExactPlainSystem.j0 (k + 1) y0 y1 y2 y3 y4 y5 y6 y7 y8 y9 y10)) ∧ (∀ y0 y1 y2 y3 y4 y5 y6 y7, LeO (laws_FnExactPlainSystem.j1 k y0 y1 y2 y3 y4 y5 y6 y7) (laws_FnExactPlainSystem.j1 (k + 1) y0 y1 y2 y3 y4 y5 y6 y7)) ∧ (∀ y0 y1 y2 y3, LeO (laws_FnExactPlainSystem.j2 k y0 y1 y2 y3) (laws_FnExactPlainSystem.j2 (k + 1) y0 y1 y2 y3))
  | 0 => ⟨fun _ _ _ _ _ _ _ _ _ _ _ r h => by simp [laws_FnExactPlainSystem.j0] at h, fun _ _ _ _ _ _ _ _ r h => by simp [laws_FnExactPlainSystem.j1] at h, fun _ _ _ _ r h => by simp [laws_FnExactPlainSystem.j2] at h⟩
  | k + 1 => by
    obtain ⟨ih0, ih1, ih2⟩ := laws_FnExactPlainSystem.mono_l k
    refine ⟨?_, ?_, ?_⟩
    · intro y0 y1 y2 y3 y4 y5 y6 y7 y8 y9 y10
      unfold laws_FnExactPlainSystem.j0
      repeat' first
      | (with_reducible exact ih0 _ _ _ _ _ _ _ _ _ _ _)
      | (with_reducible exact ih1 _ _ _ _ _ _ _ _)
      | (with_reducible exact ih2 _ _ _ _)
      | (with_reducible exact laws_eqSystem.mono _ _ _ _ _)
      | (with_reducible exact laws_heldSystem.mono _ _ _ _)
      | (with_reducible exact laws_markSystem.mono _ _ _ _)
      | (with_reducible exact laws_toSystem.mono _ _ _)
      | (with_reducible exact LeO.refl _)
      | (with_reducible exact LeO.none _)
      | (with_reducible refine LeO.ite ?_ ?_)
      | (with_reducible refine LeO.bind ?_ (fun _ => ?_))
      | exact ih0 _ _ _ _ _ _ _ _ _ _ _
      | exact ih1 _ _ _ _ _ _ _ _
      | exact ih2 _ _ _ _
      | exact laws_eqSystem.mono _ _ _ _ _
      | exact laws_heldSystem.mono _ _ _ _
      | exact laws_markSystem.mono _ _ _ _
      | exact laws_toSystem.mono _ _ _
      | exact LeO.none _
      | refine LeO.ite ?_ ?_
      | refine LeO.bind ?_ (fun _ => ?_)
    · intro y0 y1 y2 y3 y4 y5 y6 y7
      unfold laws_FnExactPlainSystem.j1
      repeat' first
      | (with_reducible exact ih0 _ _ _ _ _ _ _ _ _ _ _)
      | (with_reducible exact ih1 _ _ _ _ _ _ _ _)
      | (with_reducible exact ih2 _ _ _ _)
      | (with_reducible exact laws_eqSystem.mono _ _ _ _ _)
      | (with_reducible exact laws_heldSystem.mono _ _ _ _)
      | (with_reducible exact laws_markSystem.mono _ _ _ _)
      | (with_reducible exact laws_toSystem.mono _ _ _)
      | (with_reducible exact LeO.refl _)
      | (with_reducible exact LeO.none _)
      | (with_reducible refine LeO.ite ?_ ?_)
      | (with_reducible refine LeO.bind ?_ (fun _ => ?_))
      | exact ih0 _ _ _ _ _ _ _ _ _ _ _
      | exact ih1 _ _ _ _ _ _ _ _
      | exact ih2 _ _ _ _
      | exact laws_eqSystem.mono _ _ _ _ _
      | exact laws_heldSystem.mono _ _ _ _
      | exact laws_markSystem.mono _ _ _ _
      | exact laws_toSystem.mono _ _ _
      | exact LeO.none _
      | refine LeO.ite ?_ ?_
      | refine LeO.bind ?_ (fun _ => ?_)
    · intro y0 y1 y2 y3
      unfold laws_FnExactPlainSystem.j2
      repeat' first
      | (with_reducible exact ih0 _ _ _ _ _ _ _ _ _ _ _)
      | (with_reducible exact ih1 _ _ _ _ _ _ _ _)
      | (with_reducible exact ih2 _ _ _ _)
      | (with_reducible exact laws_eqSystem.mono _ _ _ _ _)
      | (with_reducible exact laws_heldSystem.mono _ _ _ _)
      | (with_reducible exact laws_markSystem.mono _ _ _ _)
      | (with_reducible exact laws_toSystem.mono _ _ _)
      | (with_reducible exact LeO.refl _)
      | (with_reducible exact LeO.none _)
      | (with_reducible refine LeO.ite ?_ ?_)
      | (with_reducible refine LeO.bind ?_ (fun _ => ?_))
      | exact ih0 _ _ _ _ _ _ _ _ _ _ _
      | exact ih1 _ _ _ _ _ _ _ _
      | exact ih2 _ _ _ _
      | exact laws_eqSystem.mono _ _ _ _ _
      | exact laws_heldSystem.mono _ _ _ _
      | exact laws_markSystem.mono _ _ _ _
      | exact laws_toSystem.mono _ _ _
      | exact LeO.none _
      | refine LeO.ite ?_ ?_
      | refine LeO.bind ?_ (fun _ => ?_)
theorem laws_FnExactPlainSystem.mono : ∀ a0 a1 k, LeO (laws_FnExactPlainSystem.f k a0 a1) (laws_FnExactPlainSystem.f (k + 1) a0 a1) := by
  intro a0 a1 k
  obtain ⟨ih0, ih1, ih2⟩ := laws_FnExactPlainSystem.mono_l k
  unfold laws_FnExactPlainSystem.f
  repeat' first
      | (with_reducible exact ih0 _ _ _ _ _ _ _ _ _ _ _)
      | (with_reducible exact ih1 _ _ _ _ _ _ _ _)
      | (with_reducible exact ih2 _ _ _ _)
      | (with_reducible exact laws_eqSystem.mono _ _ _ _ _)
      | (with_reducible exact laws_heldSystem.mono _ _ _ _)
      | (with_reducible exact laws_markSystem.mono _ _ _ _)
      | (with_reducible exact laws_toSystem.mono _ _ _)
      | (with_reducible exact LeO.refl _)
      | (with_reducible exact LeO.none _)
      | (with_reducible refine LeO.ite ?_ ?_)
      | (with_reducible refine LeO.bind ?_ (fun _ => ?_))
      | exact ih0 _ _ _ _ _ _ _ _ _ _ _
      | exact ih1 _ _ _ _ _ _ _ _
      | exact ih2 _ _ _ _
      | exact laws_eqSystem.mono _ _ _ _ _
      | exact laws_heldSystem.mono _ _ _ _
      | exact laws_markSystem.mono _ _ _ _
      | exact laws_toSystem.mono _ _ _
      | exact LeO.none _
      | refine LeO.ite ?_ ?_
      | refine LeO.bind ?_ (fun _ => ?_)
set_option maxHeartbeats 8000000 in
set_option maxRecDepth 100000 in
theorem laws_FnExactPlainSystem.calls (k : Nat) (A0_0 : Option Addr) (c0_0 : Nat) (l0_0 : List (S113)) (A0_1 : Option Addr) (c0_1 : Nat) (l0_1 : List (S59)) (_u : Bool) (w : World) (hr0_0 : Kd.C k113 w A0_0 l0_0.length l0_0) (hc0_0 : l0_0.length ≤ c0_0) (hr0_1 : Kd.C k59 w A0_1 l0_1.length l0_1) (hc0_1 : l0_1.length ≤ c0_1) (h : laws_FnExactPlainSystem.f k l0_0 l0_1 = some true) :
    Calls Try.prog 6 #[.agg #[.slice A0_0 l0_0.length c0_0, .slice A0_1 l0_1.length c0_1]] w fun e w' => e = .returned (.bool true) ∧ Below w.heap.size w w' := by
  have hu32 := Try.underlying32
  have hu25 := Try.underlying25
  have HR0_0 := Aside0.mk hr0_0
  have HC0_0 := Aside0.mk hc0_0
  clear hr0_0 hc0_0
  have HR0_1 := Aside0.mk hr0_1
  have HC0_1 := Aside0.mk hc0_1
  clear hr0_1 hc0_1
  have HB := Aside0.mk (Below.refl w.heap.size w)
  have H : ((laws_szSystem.f l0_0 l0_1 1048576).bind fun t320 => (if t320 < 0 then (some true) else ((laws_toSystem.f k l0_0 l0_1).bind fun bt321 => ((spec_PlainSystem.f bt321.1 bt321.2).bind fun bt327 => ((laws_toSystem.f k l0_0 l0_1).bind fun bt335 => ((impl_PlainSystem.f bt335.1 bt335.2).bind fun bt342 => ((laws_eqSystem.f k bt342.1 bt342.2.1 bt327.1 bt327.2.1).bind fun t350 => (if t350 = true then (laws_FnExactPlainSystem.j0 k bt327.2.2 bt342.2.2 (bt342.2.2 != bt327.2.2) l0_0 l0_1 bt327.1 bt327.2.1 bt335.1 bt335.2 bt342.1 bt342.2.1) else (laws_FnExactPlainSystem.j0 k bt327.2.2 bt342.2.2 true l0_0 l0_1 bt327.1 bt327.2.1 bt335.1 bt335.2 bt342.1 bt342.2.1))))))))) = some true := h
  clear h
  replace H := Option.bind_eq_some_iff.mp H
  obtain ⟨t320, A20, H⟩ := H
  replace H : (if t320 < 0 then (some true) else ((laws_toSystem.f k l0_0 l0_1).bind fun bt321 => ((spec_PlainSystem.f bt321.1 bt321.2).bind fun bt327 => ((laws_toSystem.f k l0_0 l0_1).bind fun bt335 => ((impl_PlainSystem.f bt335.1 bt335.2).bind fun bt342 => ((laws_eqSystem.f k bt342.1 bt342.2.1 bt327.1 bt327.2.1).bind fun t350 => (if t350 = true then (laws_FnExactPlainSystem.j0 k bt327.2.2 bt342.2.2 (bt342.2.2 != bt327.2.2) l0_0 l0_1 bt327.1 bt327.2.1 bt335.1 bt335.2 bt342.1 bt342.2.1) else (laws_FnExactPlainSystem.j0 k bt327.2.2 bt342.2.2 true l0_0 l0_1 bt327.1 bt327.2.1 bt335.1 bt335.2 bt342.1 bt342.2.1)))))))) = some true := H
  have A2 := Aside0.mk A20
  clear A20
  by_cases c3 : t320 < 0
  · rw [if_pos c3] at H
    have c3b0 : decide (t320 < 0) = true := decide_eq_true c3
    clear c3
    clear H
    go_enter Try.func6, Try.ntmps6
    go_wp2_with (first | ((with_reducible refine gate_dst (N := 1) rfl ?_); refine box_event ?hg (N := 1) ?hd (cs := #[.slice A0_0 l0_0.length c0_0, .slice A0_1 l0_1.length c0_1]) (t := 32) ?hr ?_; (case hd => rfl); (case hg => rfl); (case hr => first | (go_simp; done) | (go_simp; rfl)); intro gb319 hg w4 hbox hb; have n0_ := Aside0.mk (below_step (by repeat (first | (with_reducible first | exact HB.out | apply below_alloc | apply pw_below_drewN | apply below_drew1) | exact HB.out)) hb); have n1_ := Aside0.mk (hbox); have n2_ := Aside0.mk ((by rw [hg]; exact (below_size (by repeat (first | (with_reducible first | exact HB.out | apply below_alloc | apply pw_below_drewN | apply below_drew1) | exact HB.out))) : w.heap.size ≤ gb319)); have n3_ := Aside0.mk ((by rw [hg]; exact (below_size (by repeat (first | (with_reducible first | exact HB.out | apply below_alloc | apply pw_below_drewN | apply below_drew1) | exact HB.out))) : w.heap.size ≤ gb319)); clear HB; have HB := n0_; have BK319 := n1_; have GW319 := n2_; have GE319 := n3_; clear n0_ n1_ n2_ n3_; clear hb hbox hg; have hcz5_0 : w4.cell? ⟨gb319, 0, none⟩ = some (.slice A0_0 l0_0.length c0_0) := (blk_cell BK319.out 0).trans rfl; have hcz5_1 : w4.cell? ⟨gb319, 1, none⟩ = some (.slice A0_1 l0_1.length c0_1) := (blk_cell BK319.out 1).trans rfl; have hfz5_0 := blk_frozen BK319.out 0; have hfz5_1 := blk_frozen BK319.out 1) | ((with_reducible refine gate_callee (f := 17) rfl ?_); refine goesL_ (some 16) rfl rfl Try.func17 (by kernel_rfl) rfl #[.agg #[.slice A0_0 l0_0.length c0_0, .slice A0_1 l0_1.length c0_1], .int .i64 1048576] rfl (by (try simp only [List.map_toArray, List.map_cons, List.map_nil]); first | done | rfl | (simp only [List.length_drop, List.length_take]; rfl)) ?_; (with_reducible refine (laws_szSystem.calls _ _ l0_0 _ _ l0_1 1048576 t320 _ ?side1 ?side2 ?side3 ?side4 A2.out).mono ?_); (case side1 => repeat (first | exact (Kd.C_below HR0_0.out HB.out) | (with_reducible refine Kd.C_alloc ?_ _) | (with_reducible refine Kd.C_drewN ?_ _) | (with_reducible refine Kd.C_drew ?_))); (case side2 => exact HC0_0.out); (case side3 => repeat (first | exact (Kd.C_below HR0_1.out HB.out) | (with_reducible refine Kd.C_alloc ?_ _) | (with_reducible refine Kd.C_drewN ?_ _) | (with_reducible refine Kd.C_drew ?_))); (case side4 => exact HC0_1.out); rintro e w6 ⟨rfl, hb⟩; refine ⟨_, rfl, ?_⟩; have n0_ := Aside0.mk (blk_below (g := gb319) (o := .cells #[.slice A0_0 l0_0.length c0_0, .slice A0_1 l0_1.length c0_1] 32 (0, 0)) (by (with_reducible repeat (first | refine blk_drewN ?_ _ | refine blk_drew ?_ | refine blk_alloc ?_ _)); exact BK319.out) hb); have n1_ := Aside0.mk (below_step (by repeat (first | (with_reducible first | exact HB.out | apply below_alloc | apply pw_below_drewN | apply below_drew1 | refine below_set ?_ GE319.out) | exact HB.out)) hb); clear BK319; clear HB; have BK319 := n0_; have HB := n1_; clear n0_ n1_; (try clear hb); (try clear hb2); (try clear hk); (try clear hi)))
    go_ret
    exact ⟨by first | rfl | (simp [errW_none, errW_some] <;> rfl) | (simp [*, errW_none, errW_some] <;> rfl), by repeat (first | (with_reducible first | exact HB.out | apply below_alloc | apply pw_below_drewN | apply below_drew1 | refine below_set ?_ GE319.out) | exact HB.out)⟩
  · rw [if_neg c3] at H
    have c3b0 : decide (t320 < 0) = false := decide_eq_false c3
    clear c3
    replace H := Option.bind_eq_some_iff.mp H
    obtain ⟨⟨t321, t324⟩, A70, H⟩ := H
    replace H : ((spec_PlainSystem.f t321 t324).bind fun bt327 => ((laws_toSystem.f k l0_0 l0_1).bind fun bt335 => ((impl_PlainSystem.f bt335.1 bt335.2).bind fun bt342 => ((laws_eqSystem.f k bt342.1 bt342.2.1 bt327.1 bt327.2.1).bind fun t350 => (if t350 = true then (laws_FnExactPlainSystem.j0 k bt327.2.2 bt342.2.2 (bt342.2.2 != bt327.2.2) l0_0 l0_1 bt327.1 bt327.2.1 bt335.1 bt335.2 bt342.1 bt342.2.1) else (laws_FnExactPlainSystem.j0 k bt327.2.2 bt342.2.2 true l0_0 l0_1 bt327.1 bt327.2.1 bt335.1 bt335.2 bt342.1 bt342.2.1)))))) = some true := H
    have A7 := Aside0.mk A70
    clear A70
    replace H := Option.bind_eq_some_iff.mp H
    obtain ⟨⟨t327, t330, t333⟩, A80, H⟩ := H
    replace H : ((laws_toSystem.f k l0_0 l0_1).bind fun bt335 => ((impl_PlainSystem.f bt335.1 bt335.2).bind fun bt342 => ((laws_eqSystem.f k bt342.1 bt342.2.1 t327 t330).bind fun t350 => (if t350 = true then (laws_FnExactPlainSystem.j0 k t333 bt342.2.2 (bt342.2.2 != t333) l0_0 l0_1 t327 t330 bt335.1 bt335.2 bt342.1 bt342.2.1) else (laws_FnExactPlainSystem.j0 k t333 bt342.2.2 true l0_0 l0_1 t327 t330 bt335.1 bt335.2 bt342.1 bt342.2.1))))) = some true := H
    have A8 := Aside0.mk A80
    clear A80
    replace H := Option.bind_eq_some_iff.mp H
    obtain ⟨⟨t335, t338⟩, A90, H⟩ := H
    replace H : ((impl_PlainSystem.f t335 t338).bind fun bt342 => ((laws_eqSystem.f k bt342.1 bt342.2.1 t327 t330).bind fun t350 => (if t350 = true then (laws_FnExactPlainSystem.j0 k t333 bt342.2.2 (bt342.2.2 != t333) l0_0 l0_1 t327 t330 t335 t338 bt342.1 bt342.2.1) else (laws_FnExactPlainSystem.j0 k t333 bt342.2.2 true l0_0 l0_1 t327 t330 t335 t338 bt342.1 bt342.2.1)))) = some true := H
    have A9 := Aside0.mk A90
    clear A90
    replace H := Option.bind_eq_some_iff.mp H
    obtain ⟨⟨t342, t345, t348⟩, A100, H⟩ := H
    replace H : ((laws_eqSystem.f k t342 t345 t327 t330).bind fun t350 => (if t350 = true then (laws_FnExactPlainSystem.j0 k t333 t348 (t348 != t333) l0_0 l0_1 t327 t330 t335 t338 t342 t345) else (laws_FnExactPlainSystem.j0 k t333 t348 true l0_0 l0_1 t327 t330 t335 t338 t342 t345))) = some true := H
    have A10 := Aside0.mk A100
    clear A100
    have HC11 := Aside0.mk H
    clear H
    go_enter Try.func6, Try.ntmps6
    go_upto_region 8 with (first | ((with_reducible refine gate_dst (N := 1) rfl ?_); refine box_event ?hg (N := 1) ?hd (cs := #[.slice A0_0 l0_0.length c0_0, .slice A0_1 l0_1.length c0_1]) (t := 32) ?hr ?_; (case hd => rfl); (case hg => rfl); (case hr => first | (go_simp; done) | (go_simp; rfl)); intro gb319 hg w12 hbox hb; have n0_ := Aside0.mk (below_step (by repeat (first | (with_reducible first | exact HB.out | apply below_alloc | apply pw_below_drewN | apply below_drew1) | exact HB.out)) hb); have n1_ := Aside0.mk (hbox); have n2_ := Aside0.mk ((by rw [hg]; exact (below_size (by repeat (first | (with_reducible first | exact HB.out | apply below_alloc | apply pw_below_drewN | apply below_drew1) | exact HB.out))) : w.heap.size ≤ gb319)); have n3_ := Aside0.mk ((by rw [hg]; exact (below_size (by repeat (first | (with_reducible first | exact HB.out | apply below_alloc | apply pw_below_drewN | apply below_drew1) | exact HB.out))) : w.heap.size ≤ gb319)); clear HB; have HB := n0_; have BK319 := n1_; have GW319 := n2_; have GE319 := n3_; clear n0_ n1_ n2_ n3_; clear hb hbox hg; have hcz13_0 : w12.cell? ⟨gb319, 0, none⟩ = some (.slice A0_0 l0_0.length c0_0) := (blk_cell BK319.out 0).trans rfl; have hcz13_1 : w12.cell? ⟨gb319, 1, none⟩ = some (.slice A0_1 l0_1.length c0_1) := (blk_cell BK319.out 1).trans rfl; have hfz13_0 := blk_frozen BK319.out 0; have hfz13_1 := blk_frozen BK319.out 1) | ((with_reducible refine gate_callee (f := 17) rfl ?_); refine goesL_ (some 16) rfl rfl Try.func17 (by kernel_rfl) rfl #[.agg #[.slice A0_0 l0_0.length c0_0, .slice A0_1 l0_1.length c0_1], .int .i64 1048576] rfl (by (try simp only [List.map_toArray, List.map_cons, List.map_nil]); first | done | rfl | (simp only [List.length_drop, List.length_take]; rfl)) ?_; (with_reducible refine (laws_szSystem.calls _ _ l0_0 _ _ l0_1 1048576 t320 _ ?side1 ?side2 ?side3 ?side4 A2.out).mono ?_); (case side1 => repeat (first | exact (Kd.C_below HR0_0.out HB.out) | (with_reducible refine Kd.C_alloc ?_ _) | (with_reducible refine Kd.C_drewN ?_ _) | (with_reducible refine Kd.C_drew ?_))); (case side2 => exact HC0_0.out); (case side3 => repeat (first | exact (Kd.C_below HR0_1.out HB.out) | (with_reducible refine Kd.C_alloc ?_ _) | (with_reducible refine Kd.C_drewN ?_ _) | (with_reducible refine Kd.C_drew ?_))); (case side4 => exact HC0_1.out); rintro e w14 ⟨rfl, hb⟩; refine ⟨_, rfl, ?_⟩; have n0_ := Aside0.mk (blk_below (g := gb319) (o := .cells #[.slice A0_0 l0_0.length c0_0, .slice A0_1 l0_1.length c0_1] 32 (0, 0)) (by (with_reducible repeat (first | refine blk_drewN ?_ _ | refine blk_drew ?_ | refine blk_alloc ?_ _)); exact BK319.out) hb); have n1_ := Aside0.mk (below_step (by repeat (first | (with_reducible first | exact HB.out | apply below_alloc | apply pw_below_drewN | apply below_drew1 | refine below_set ?_ GE319.out) | exact HB.out)) hb); clear BK319; clear HB; have BK319 := n0_; have HB := n1_; clear n0_ n1_; (try clear hb); (try clear hb2); (try clear hk); (try clear hi); have hcz15_0 : w14.cell? ⟨gb319, 0, none⟩ = some (.slice A0_0 l0_0.length c0_0) := (blk_cell BK319.out 0).trans rfl; have hcz15_1 : w14.cell? ⟨gb319, 1, none⟩ = some (.slice A0_1 l0_1.length c0_1) := (blk_cell BK319.out 1).trans rfl; have hfz15_0 := blk_frozen BK319.out 0; have hfz15_1 := blk_frozen BK319.out 1) | ((with_reducible refine gate_callee (f := 19) rfl ?_); refine goesL_ (some 21) rfl rfl Try.func19 (by kernel_rfl) rfl #[.agg #[.slice A0_0 l0_0.length c0_0, .slice A0_1 l0_1.length c0_1]] rfl (by (try simp only [List.map_toArray, List.map_cons, List.map_nil]); first | done | rfl | (simp only [List.length_drop, List.length_take]; rfl)) ?_; (with_reducible refine (laws_toSystem.calls k _ _ l0_0 _ _ l0_1 t321 t324 _ ?side1 ?side2 ?side3 ?side4 A7.out).mono ?_); (case side1 => repeat (first | exact (Kd.C_below HR0_0.out HB.out) | (with_reducible refine Kd.C_alloc ?_ _) | (with_reducible refine Kd.C_drewN ?_ _) | (with_reducible refine Kd.C_drew ?_))); (case side2 => exact HC0_0.out); (case side3 => repeat (first | exact (Kd.C_below HR0_1.out HB.out) | (with_reducible refine Kd.C_alloc ?_ _) | (with_reducible refine Kd.C_drewN ?_ _) | (with_reducible refine Kd.C_drew ?_))); (case side4 => exact HC0_1.out); rintro e w16 ⟨v322, v325, rfl, ho0, ho1, hb⟩; refine ⟨_, rfl, ?_⟩; have n0_ := Aside0.mk (Kd.R_lower ho0 (below_size (by repeat (first | (with_reducible first | exact HB.out | apply below_alloc | apply pw_below_drewN | apply below_drew1 | refine below_set ?_ GE319.out) | exact HB.out)))); have n1_ := Aside0.mk (Kd.R_lower ho1 (below_size (by repeat (first | (with_reducible first | exact HB.out | apply below_alloc | apply pw_below_drewN | apply below_drew1 | refine below_set ?_ GE319.out) | exact HB.out)))); have n2_ := Aside0.mk (blk_below (g := gb319) (o := .cells #[.slice A0_0 l0_0.length c0_0, .slice A0_1 l0_1.length c0_1] 32 (0, 0)) (by (with_reducible repeat (first | refine blk_drewN ?_ _ | refine blk_drew ?_ | refine blk_alloc ?_ _)); exact BK319.out) hb); have n3_ := Aside0.mk (below_step (by repeat (first | (with_reducible first | exact HB.out | apply below_alloc | apply pw_below_drewN | apply below_drew1 | refine below_set ?_ GE319.out) | exact HB.out)) hb); clear BK319; clear HB; have HO323 := n0_; have HO326 := n1_; have BK319 := n2_; have HB := n3_; clear n0_ n1_ n2_ n3_; (try clear hb); (try clear hb2); (try clear hk); (try clear hi); (try clear ho0); (try clear ho1); obtain ⟨Ao17, co17, eo17⟩ := Kd.R_slice HO323.out; subst eo17; obtain ⟨Ao18, co18, eo18⟩ := Kd.R_slice HO326.out; subst eo18) | ((with_reducible refine gate_callee (f := 23) rfl ?_); refine goesL_ (some 22) rfl rfl Try.func23 (by kernel_rfl) rfl #[.agg #[.slice Ao17 t321.length co17, .slice Ao18 t324.length co18]] rfl (by (try simp only [List.map_toArray, List.map_cons, List.map_nil]); first | done | rfl | (simp only [List.length_drop, List.length_take]; rfl)) ?_; (with_reducible refine (spec_PlainSystem.calls _ _ t321 _ _ t324 t327 t330 t333 _ ?side1 ?side2 ?side3 ?side4 A8.out).mono ?_); (case side1 => repeat (first | exact (Kd.R_reads' HO323.out).2.2 | (with_reducible refine Kd.C_alloc ?_ _) | (with_reducible refine Kd.C_drewN ?_ _) | (with_reducible refine Kd.C_drew ?_))); (case side2 => exact (Kd.R_reads' HO323.out).2.1); (case side3 => repeat (first | exact (Kd.R_reads' HO326.out).2.2 | (with_reducible refine Kd.C_alloc ?_ _) | (with_reducible refine Kd.C_drewN ?_ _) | (with_reducible refine Kd.C_drew ?_))); (case side4 => exact (Kd.R_reads' HO326.out).2.1); rintro e w19 ⟨v328, v331, rfl, ho0, ho1, hb⟩; refine ⟨_, rfl, ?_⟩; have n0_ := Aside0.mk (Kd.R_elder' (by (with_reducible repeat (first | apply Kd.R_alloc | apply Kd.R_drewN | apply Kd.R_drew)); exact HO323.out) (Kd.R_base ho0) hb); have n1_ := Aside0.mk (Kd.R_elder' (by (with_reducible repeat (first | apply Kd.R_alloc | apply Kd.R_drewN | apply Kd.R_drew)); exact HO326.out) (Kd.R_base ho1) hb); have n2_ := Aside0.mk (Kd.R_lower (Kd.R_new' ho0 (Kd.R_lt (by (with_reducible repeat (first | apply Kd.R_alloc | apply Kd.R_drewN | apply Kd.R_drew)); exact HO323.out))) (below_size (by repeat (first | (with_reducible first | exact HB.out | apply below_alloc | apply pw_below_drewN | apply below_drew1 | refine below_set ?_ GE319.out) | exact HB.out)))); have n3_ := Aside0.mk (Kd.R_lower (Kd.R_new' ho1 (Kd.R_lt (by (with_reducible repeat (first | apply Kd.R_alloc | apply Kd.R_drewN | apply Kd.R_drew)); exact HO326.out))) (below_size (by repeat (first | (with_reducible first | exact HB.out | apply below_alloc | apply pw_below_drewN | apply below_drew1 | refine below_set ?_ GE319.out) | exact HB.out)))); have n4_ := Aside0.mk (blk_below (g := gb319) (o := .cells #[.slice A0_0 l0_0.length c0_0, .slice A0_1 l0_1.length c0_1] 32 (0, 0)) (by (with_reducible repeat (first | refine blk_drewN ?_ _ | refine blk_drew ?_ | refine blk_alloc ?_ _)); exact BK319.out) hb); have n5_ := Aside0.mk (below_step (by repeat (first | (with_reducible first | exact HB.out | apply below_alloc | apply pw_below_drewN | apply below_drew1 | refine below_set ?_ GE319.out) | exact HB.out)) hb); clear HO323; clear HO326; clear BK319; clear HB; have HO323 := n0_; have HO326 := n1_; have HO329 := n2_; have HO332 := n3_; have BK319 := n4_; have HB := n5_; clear n0_ n1_ n2_ n3_ n4_ n5_; (try clear hb); (try clear hb2); (try clear hk); (try clear hi); (try clear ho0); (try clear ho1)) | ((with_reducible refine gate_dst (N := 4) rfl ?_); refine box_event ?hg (N := 4) ?hd (cs := #[.slice none 0 0, .slice none 0 0]) (t := 25) ?hr ?_; (case hd => rfl); (case hg => rfl); (case hr => first | (go_simp; done) | (go_simp; rfl)); intro gb334 hg w20 hbox hb; have n0_ := Aside0.mk (Kd.R_below (by (with_reducible repeat (first | apply Kd.R_alloc | apply Kd.R_drewN | apply Kd.R_drew)); exact HO323.out) hb); have n1_ := Aside0.mk (Kd.R_below (by (with_reducible repeat (first | apply Kd.R_alloc | apply Kd.R_drewN | apply Kd.R_drew)); exact HO326.out) hb); have n2_ := Aside0.mk (Kd.R_below (by (with_reducible repeat (first | apply Kd.R_alloc | apply Kd.R_drewN | apply Kd.R_drew)); exact HO329.out) hb); have n3_ := Aside0.mk (Kd.R_below (by (with_reducible repeat (first | apply Kd.R_alloc | apply Kd.R_drewN | apply Kd.R_drew)); exact HO332.out) hb); have n4_ := Aside0.mk (blk_below (g := gb319) (o := .cells #[.slice A0_0 l0_0.length c0_0, .slice A0_1 l0_1.length c0_1] 32 (0, 0)) (by (with_reducible repeat (first | refine blk_drewN ?_ _ | refine blk_drew ?_ | refine blk_alloc ?_ _)); exact BK319.out) hb); have n5_ := Aside0.mk (below_step (by repeat (first | (with_reducible first | exact HB.out | apply below_alloc | apply pw_below_drewN | apply below_drew1 | refine below_set ?_ GE319.out) | exact HB.out)) hb); have n6_ := Aside0.mk (hbox); have n7_ := Aside0.mk ((by rw [hg]; exact (below_size (by repeat (first | (with_reducible first | exact HB.out | apply below_alloc | apply pw_below_drewN | apply below_drew1 | refine below_set ?_ GE319.out) | exact HB.out))) : w.heap.size ≤ gb334)); have n8_ := Aside0.mk ((by rw [hg]; exact (below_size (by repeat (first | (with_reducible first | exact HB.out | apply below_alloc | apply pw_below_drewN | apply below_drew1 | refine below_set ?_ GE319.out) | exact HB.out))) : w.heap.size ≤ gb334)); have n9_ := Aside0.mk ((by rw [hg]; exact Nat.ne_of_lt (blk_lt (g := gb319) (o := .cells #[.slice A0_0 l0_0.length c0_0, .slice A0_1 l0_1.length c0_1] 32 (0, 0)) (by (with_reducible repeat (first | refine blk_drewN ?_ _ | refine blk_drew ?_ | refine blk_alloc ?_ _)); exact BK319.out)) : gb319 ≠ gb334)); have n10_ := Aside0.mk ((by rw [hg]; exact Nat.ne_of_gt (blk_lt (g := gb319) (o := .cells #[.slice A0_0 l0_0.length c0_0, .slice A0_1 l0_1.length c0_1] 32 (0, 0)) (by (with_reducible repeat (first | refine blk_drewN ?_ _ | refine blk_drew ?_ | refine blk_alloc ?_ _)); exact BK319.out)) : gb334 ≠ gb319)); clear HO323; clear HO326; clear HO329; clear HO332; clear BK319; clear HB; have HO323 := n0_; have HO326 := n1_; have HO329 := n2_; have HO332 := n3_; have BK319 := n4_; have HB := n5_; have BK334 := n6_; have GW334 := n7_; have GE334 := n8_; have NB319_334 := n9_; have NB334_319 := n10_; clear n0_ n1_ n2_ n3_ n4_ n5_ n6_ n7_ n8_ n9_ n10_; clear hb hbox hg; obtain ⟨Ao21, co21, eo21⟩ := Kd.R_slice HO329.out; subst eo21; have hnb22 := NB334_319.out; have hnc22 := NB319_334.out; have hcz23_0 : w20.cell? ⟨gb334, 0, none⟩ = some (.slice none 0 0) := (blk_cell BK334.out 0).trans rfl; have hcz23_1 : w20.cell? ⟨gb334, 1, none⟩ = some (.slice none 0 0) := (blk_cell BK334.out 1).trans rfl; have hfz23_0 := blk_frozen BK334.out 0; have hfz23_1 := blk_frozen BK334.out 1; obtain ⟨Ao24, co24, eo24⟩ := Kd.R_slice HO332.out; subst eo24; have hcz25_0 : w20.cell? ⟨gb319, 0, none⟩ = some (.slice A0_0 l0_0.length c0_0) := (blk_cell BK319.out 0).trans rfl; have hcz25_1 : w20.cell? ⟨gb319, 1, none⟩ = some (.slice A0_1 l0_1.length c0_1) := (blk_cell BK319.out 1).trans rfl; have hfz25_0 := blk_frozen BK319.out 0; have hfz25_1 := blk_frozen BK319.out 1) | ((with_reducible refine gate_callee (f := 19) rfl ?_); refine goesL_ (some 26) rfl rfl Try.func19 (by kernel_rfl) rfl #[.agg #[.slice A0_0 l0_0.length c0_0, .slice A0_1 l0_1.length c0_1]] rfl (by (try simp only [List.map_toArray, List.map_cons, List.map_nil]); first | done | rfl | (simp only [List.length_drop, List.length_take]; rfl)) ?_; (with_reducible refine (laws_toSystem.calls k _ _ l0_0 _ _ l0_1 t335 t338 _ ?side1 ?side2 ?side3 ?side4 A9.out).mono ?_); (case side1 => exact Kd.C_below HR0_0.out (by repeat (first | (with_reducible first | exact HB.out | apply below_alloc | apply pw_below_drewN | apply below_drew1 | refine below_set ?_ GE319.out | refine below_set ?_ GE334.out) | exact HB.out))); (case side2 => exact HC0_0.out); (case side3 => exact Kd.C_below HR0_1.out (by repeat (first | (with_reducible first | exact HB.out | apply below_alloc | apply pw_below_drewN | apply below_drew1 | refine below_set ?_ GE319.out | refine below_set ?_ GE334.out) | exact HB.out))); (case side4 => exact HC0_1.out); rintro e w26 ⟨v336, v339, rfl, ho0, ho1, hb⟩; refine ⟨_, rfl, ?_⟩; have n0_ := Aside0.mk (Kd.R_elder' (by (with_reducible repeat (first | apply Kd.R_alloc | apply Kd.R_drewN | apply Kd.R_drew)); exact (Kd.R_mono (Kd.R_far (p := ⟨gb334, 1, none⟩) (Kd.R_far (p := ⟨gb334, 0, none⟩) (Kd.R_types HO323.out BK334.out (by decide)) (fun _ hk => hk.2) (.slice Ao21 t327.length co21)) (fun _ hk => hk.2) (.slice Ao24 t330.length co24)) (fun _ h_ => h_.1))) (Kd.R_base ho0) hb); have n1_ := Aside0.mk (Kd.R_elder' (by (with_reducible repeat (first | apply Kd.R_alloc | apply Kd.R_drewN | apply Kd.R_drew)); exact (Kd.R_mono (Kd.R_far (p := ⟨gb334, 1, none⟩) (Kd.R_far (p := ⟨gb334, 0, none⟩) (Kd.R_types HO326.out BK334.out (by decide)) (fun _ hk => hk.2) (.slice Ao21 t327.length co21)) (fun _ hk => hk.2) (.slice Ao24 t330.length co24)) (fun _ h_ => h_.1))) (Kd.R_base ho1) hb); have n2_ := Aside0.mk (Kd.R_elder' (by (with_reducible repeat (first | apply Kd.R_alloc | apply Kd.R_drewN | apply Kd.R_drew)); exact (Kd.R_mono (Kd.R_far (p := ⟨gb334, 1, none⟩) (Kd.R_far (p := ⟨gb334, 0, none⟩) (Kd.R_types HO329.out BK334.out (by decide)) (fun _ hk => hk.2) (.slice Ao21 t327.length co21)) (fun _ hk => hk.2) (.slice Ao24 t330.length co24)) (fun _ h_ => h_.1))) (Kd.R_base ho0) hb); have n3_ := Aside0.mk (Kd.R_elder' (by (with_reducible repeat (first | apply Kd.R_alloc | apply Kd.R_drewN | apply Kd.R_drew)); exact (Kd.R_mono (Kd.R_far (p := ⟨gb334, 1, none⟩) (Kd.R_far (p := ⟨gb334, 0, none⟩) (Kd.R_types HO332.out BK334.out (by decide)) (fun _ hk => hk.2) (.slice Ao21 t327.length co21)) (fun _ hk => hk.2) (.slice Ao24 t330.length co24)) (fun _ h_ => h_.1))) (Kd.R_base ho1) hb); have n4_ := Aside0.mk (Kd.R_lower (Kd.R_new' (Kd.R_new' ho0 (Kd.R_lt (by (with_reducible repeat (first | apply Kd.R_alloc | apply Kd.R_drewN | apply Kd.R_drew)); exact (Kd.R_mono (Kd.R_far (p := ⟨gb334, 1, none⟩) (Kd.R_far (p := ⟨gb334, 0, none⟩) (Kd.R_types HO323.out BK334.out (by decide)) (fun _ hk => hk.2) (.slice Ao21 t327.length co21)) (fun _ hk => hk.2) (.slice Ao24 t330.length co24)) (fun _ h_ => h_.1))))) (Kd.R_lt (by (with_reducible repeat (first | apply Kd.R_alloc | apply Kd.R_drewN | apply Kd.R_drew)); exact (Kd.R_mono (Kd.R_far (p := ⟨gb334, 1, none⟩) (Kd.R_far (p := ⟨gb334, 0, none⟩) (Kd.R_types HO329.out BK334.out (by decide)) (fun _ hk => hk.2) (.slice Ao21 t327.length co21)) (fun _ hk => hk.2) (.slice Ao24 t330.length co24)) (fun _ h_ => h_.1))))) (below_size (by repeat (first | (with_reducible first | exact HB.out | apply below_alloc | apply pw_below_drewN | apply below_drew1 | refine below_set ?_ GE319.out | refine below_set ?_ GE334.out) | exact HB.out)))); have n5_ := Aside0.mk (Kd.R_lower (Kd.R_new' (Kd.R_new' ho1 (Kd.R_lt (by (with_reducible repeat (first | apply Kd.R_alloc | apply Kd.R_drewN | apply Kd.R_drew)); exact (Kd.R_mono (Kd.R_far (p := ⟨gb334, 1, none⟩) (Kd.R_far (p := ⟨gb334, 0, none⟩) (Kd.R_types HO326.out BK334.out (by decide)) (fun _ hk => hk.2) (.slice Ao21 t327.length co21)) (fun _ hk => hk.2) (.slice Ao24 t330.length co24)) (fun _ h_ => h_.1))))) (Kd.R_lt (by (with_reducible repeat (first | apply Kd.R_alloc | apply Kd.R_drewN | apply Kd.R_drew)); exact (Kd.R_mono (Kd.R_far (p := ⟨gb334, 1, none⟩) (Kd.R_far (p := ⟨gb334, 0, none⟩) (Kd.R_types HO332.out BK334.out (by decide)) (fun _ hk => hk.2) (.slice Ao21 t327.length co21)) (fun _ hk => hk.2) (.slice Ao24 t330.length co24)) (fun _ h_ => h_.1))))) (below_size (by repeat (first | (with_reducible first | exact HB.out | apply below_alloc | apply pw_below_drewN | apply below_drew1 | refine below_set ?_ GE319.out | refine below_set ?_ GE334.out) | exact HB.out)))); have n6_ := Aside0.mk (blk_below (g := gb319) (o := .cells #[.slice A0_0 l0_0.length c0_0, .slice A0_1 l0_1.length c0_1] 32 (0, 0)) (by (with_reducible repeat (first | refine blk_drewN ?_ _ | refine blk_drew ?_ | refine blk_alloc ?_ _)); refine blk_far ?_ NB319_334.out _; (with_reducible repeat (first | refine blk_drewN ?_ _ | refine blk_drew ?_ | refine blk_alloc ?_ _)); refine blk_far ?_ NB319_334.out _; (with_reducible repeat (first | refine blk_drewN ?_ _ | refine blk_drew ?_ | refine blk_alloc ?_ _)); exact BK319.out) hb); have n7_ := Aside0.mk (blk_below (g := gb334) (o := .cells #[.slice Ao21 t327.length co21, .slice Ao24 t330.length co24] 25 (0, 0)) (by (with_reducible repeat (first | refine blk_drewN ?_ _ | refine blk_drew ?_ | refine blk_alloc ?_ _)); refine blk_put (cs := #[.slice Ao21 t327.length co21, .slice none 0 0]) ?_ 1 _ rfl; (with_reducible repeat (first | refine blk_drewN ?_ _ | refine blk_drew ?_ | refine blk_alloc ?_ _)); refine blk_put (cs := #[.slice none 0 0, .slice none 0 0]) ?_ 0 _ rfl; (with_reducible repeat (first | refine blk_drewN ?_ _ | refine blk_drew ?_ | refine blk_alloc ?_ _)); exact BK334.out) hb); have n8_ := Aside0.mk (below_step (by repeat (first | (with_reducible first | exact HB.out | apply below_alloc | apply pw_below_drewN | apply below_drew1 | refine below_set ?_ GE319.out | refine below_set ?_ GE334.out) | exact HB.out)) hb); clear HO323; clear HO326; clear HO329; clear HO332; clear BK319; clear BK334; clear HB; have HO323 := n0_; have HO326 := n1_; have HO329 := n2_; have HO332 := n3_; have HO337 := n4_; have HO340 := n5_; have BK319 := n6_; have BK334 := n7_; have HB := n8_; clear n0_ n1_ n2_ n3_ n4_ n5_ n6_ n7_ n8_; (try clear hb); (try clear hb2); (try clear hk); (try clear hi); (try clear ho0); (try clear ho1)) | ((with_reducible refine gate_dst (N := 6) rfl ?_); refine box_event ?hg (N := 6) ?hd (cs := #[.slice none 0 0, .slice none 0 0]) (t := 25) ?hr ?_; (case hd => rfl); (case hg => rfl); (case hr => first | (go_simp; done) | (go_simp; rfl)); intro gb341 hg w27 hbox hb; have n0_ := Aside0.mk (Kd.R_below (by (with_reducible repeat (first | apply Kd.R_alloc | apply Kd.R_drewN | apply Kd.R_drew)); exact HO323.out) hb); have n1_ := Aside0.mk (Kd.R_below (by (with_reducible repeat (first | apply Kd.R_alloc | apply Kd.R_drewN | apply Kd.R_drew)); exact HO326.out) hb); have n2_ := Aside0.mk (Kd.R_below (by (with_reducible repeat (first | apply Kd.R_alloc | apply Kd.R_drewN | apply Kd.R_drew)); exact HO329.out) hb); have n3_ := Aside0.mk (Kd.R_below (by (with_reducible repeat (first | apply Kd.R_alloc | apply Kd.R_drewN | apply Kd.R_drew)); exact HO332.out) hb); have n4_ := Aside0.mk (Kd.R_below (by (with_reducible repeat (first | apply Kd.R_alloc | apply Kd.R_drewN | apply Kd.R_drew)); exact HO337.out) hb); have n5_ := Aside0.mk (Kd.R_below (by (with_reducible repeat (first | apply Kd.R_alloc | apply Kd.R_drewN | apply Kd.R_drew)); exact HO340.out) hb); have n6_ := Aside0.mk (blk_below (g := gb319) (o := .cells #[.slice A0_0 l0_0.length c0_0, .slice A0_1 l0_1.length c0_1] 32 (0, 0)) (by (with_reducible repeat (first | refine blk_drewN ?_ _ | refine blk_drew ?_ | refine blk_alloc ?_ _)); exact BK319.out) hb); have n7_ := Aside0.mk (blk_below (g := gb334) (o := .cells #[.slice Ao21 t327.length co21, .slice Ao24 t330.length co24] 25 (0, 0)) (by (with_reducible repeat (first | refine blk_drewN ?_ _ | refine blk_drew ?_ | refine blk_alloc ?_ _)); exact BK334.out) hb); have n8_ := Aside0.mk (below_step (by repeat (first | (with_reducible first | exact HB.out | apply below_alloc | apply pw_below_drewN | apply below_drew1 | refine below_set ?_ GE319.out | refine below_set ?_ GE334.out) | exact HB.out)) hb); have n9_ := Aside0.mk (hbox); have n10_ := Aside0.mk ((by rw [hg]; exact (below_size (by repeat (first | (with_reducible first | exact HB.out | apply below_alloc | apply pw_below_drewN | apply below_drew1 | refine below_set ?_ GE319.out | refine below_set ?_ GE334.out) | exact HB.out))) : w.heap.size ≤ gb341)); have n11_ := Aside0.mk ((by rw [hg]; exact (below_size (by repeat (first | (with_reducible first | exact HB.out | apply below_alloc | apply pw_below_drewN | apply below_drew1 | refine below_set ?_ GE319.out | refine below_set ?_ GE334.out) | exact HB.out))) : w.heap.size ≤ gb341)); have n12_ := Aside0.mk ((by rw [hg]; exact Nat.ne_of_lt (blk_lt (g := gb319) (o := .cells #[.slice A0_0 l0_0.length c0_0, .slice A0_1 l0_1.length c0_1] 32 (0, 0)) (by (with_reducible repeat (first | refine blk_drewN ?_ _ | refine blk_drew ?_ | refine blk_alloc ?_ _)); exact BK319.out)) : gb319 ≠ gb341)); have n13_ := Aside0.mk ((by rw [hg]; exact Nat.ne_of_gt (blk_lt (g := gb319) (o := .cells #[.slice A0_0 l0_0.length c0_0, .slice A0_1 l0_1.length c0_1] 32 (0, 0)) (by (with_reducible repeat (first | refine blk_drewN ?_ _ | refine blk_drew ?_ | refine blk_alloc ?_ _)); exact BK319.out)) : gb341 ≠ gb319)); have n14_ := Aside0.mk ((by rw [hg]; exact Nat.ne_of_lt (blk_lt (g := gb334) (o := .cells #[.slice Ao21 t327.length co21, .slice Ao24 t330.length co24] 25 (0, 0)) (by (with_reducible repeat (first | refine blk_drewN ?_ _ | refine blk_drew ?_ | refine blk_alloc ?_ _)); exact BK334.out)) : gb334 ≠ gb341)); have n15_ := Aside0.mk ((by rw [hg]; exact Nat.ne_of_gt (blk_lt (g := gb334) (o := .cells #[.slice Ao21 t327.length co21, .slice Ao24 t330.length co24] 25 (0, 0)) (by (with_reducible repeat (first | refine blk_drewN ?_ _ | refine blk_drew ?_ | refine blk_alloc ?_ _)); exact BK334.out)) : gb341 ≠ gb334)); clear HO323; clear HO326; clear HO329; clear HO332; clear HO337; clear HO340; clear BK319; clear BK334; clear HB; have HO323 := n0_; have HO326 := n1_; have HO329 := n2_; have HO332 := n3_; have HO337 := n4_; have HO340 := n5_; have BK319 := n6_; have BK334 := n7_; have HB := n8_; have BK341 := n9_; have GW341 := n10_; have GE341 := n11_; have NB319_341 := n12_; have NB341_319 := n13_; have NB334_341 := n14_; have NB341_334 := n15_; clear n0_ n1_ n2_ n3_ n4_ n5_ n6_ n7_ n8_ n9_ n10_ n11_ n12_ n13_ n14_ n15_; clear hb hbox hg; obtain ⟨Ao28, co28, eo28⟩ := Kd.R_slice HO337.out; subst eo28; have hnb29 := NB341_319.out; have hnc29 := NB319_341.out; have hnb30 := NB341_334.out; have hnc30 := NB334_341.out; have hcz31_0 : w27.cell? ⟨gb341, 0, none⟩ = some (.slice none 0 0) := (blk_cell BK341.out 0).trans rfl; have hcz31_1 : w27.cell? ⟨gb341, 1, none⟩ = some (.slice none 0 0) := (blk_cell BK341.out 1).trans rfl; have hfz31_0 := blk_frozen BK341.out 0; have hfz31_1 := blk_frozen BK341.out 1; obtain ⟨Ao32, co32, eo32⟩ := Kd.R_slice HO340.out; subst eo32) | ((with_reducible refine gate_callee (f := 24) rfl ?_); refine goesL_ (some 29) rfl rfl Try.func24 (by kernel_rfl) rfl #[.agg #[.slice Ao28 t335.length co28, .slice Ao32 t338.length co32]] rfl (by (try simp only [List.map_toArray, List.map_cons, List.map_nil]); first | done | rfl | (simp only [List.length_drop, List.length_take]; rfl)) ?_; (with_reducible refine (impl_PlainSystem.calls _ _ t335 _ _ t338 t342 t345 t348 _ ?side1 ?side2 ?side3 ?side4 A10.out).mono ?_); (case side1 => refine (Kd.R_reads' (e := 58) (base := w.heap.size) (ok := fun k_ => ((True ∧ some k_ ≠ (.slice Ao17 t321.length co17 : Value).ownBlock) ∧ some k_ ≠ (.slice Ao21 t327.length co21 : Value).ownBlock)) (n := t335.length) (c := co28) ?_).2.2; exact (by (with_reducible repeat (first | apply Kd.R_alloc | apply Kd.R_drewN | apply Kd.R_drew)); exact (Kd.R_mono (Kd.R_far (p := ⟨gb341, 1, none⟩) (Kd.R_far (p := ⟨gb341, 0, none⟩) (Kd.R_types HO337.out BK341.out (by decide)) (fun _ hk => hk.2) (.slice Ao28 t335.length co28)) (fun _ hk => hk.2) (.slice Ao32 t338.length co32)) (fun _ h_ => h_.1)))); (case side2 => exact (Kd.R_reads' HO337.out).2.1); (case side3 => refine (Kd.R_reads' (e := 59) (base := w.heap.size) (ok := fun k_ => ((True ∧ some k_ ≠ (.slice Ao18 t324.length co18 : Value).ownBlock) ∧ some k_ ≠ (.slice Ao24 t330.length co24 : Value).ownBlock)) (n := t338.length) (c := co32) ?_).2.2; exact (by (with_reducible repeat (first | apply Kd.R_alloc | apply Kd.R_drewN | apply Kd.R_drew)); exact (Kd.R_mono (Kd.R_far (p := ⟨gb341, 1, none⟩) (Kd.R_far (p := ⟨gb341, 0, none⟩) (Kd.R_types HO340.out BK341.out (by decide)) (fun _ hk => hk.2) (.slice Ao28 t335.length co28)) (fun _ hk => hk.2) (.slice Ao32 t338.length co32)) (fun _ h_ => h_.1)))); (case side4 => exact (Kd.R_reads' HO340.out).2.1); rintro e w33 ⟨v343, v346, rfl, ho0, ho1, hb⟩; refine ⟨_, rfl, ?_⟩; have n0_ := Aside0.mk (Kd.R_elder' (by (with_reducible repeat (first | apply Kd.R_alloc | apply Kd.R_drewN | apply Kd.R_drew)); exact (Kd.R_mono (Kd.R_far (p := ⟨gb341, 1, none⟩) (Kd.R_far (p := ⟨gb341, 0, none⟩) (Kd.R_types HO323.out BK341.out (by decide)) (fun _ hk => hk.2) (.slice Ao28 t335.length co28)) (fun _ hk => hk.2) (.slice Ao32 t338.length co32)) (fun _ h_ => h_.1))) (Kd.R_base ho0) hb); have n1_ := Aside0.mk (Kd.R_elder' (by (with_reducible repeat (first | apply Kd.R_alloc | apply Kd.R_drewN | apply Kd.R_drew)); exact (Kd.R_mono (Kd.R_far (p := ⟨gb341, 1, none⟩) (Kd.R_far (p := ⟨gb341, 0, none⟩) (Kd.R_types HO326.out BK341.out (by decide)) (fun _ hk => hk.2) (.slice Ao28 t335.length co28)) (fun _ hk => hk.2) (.slice Ao32 t338.length co32)) (fun _ h_ => h_.1))) (Kd.R_base ho1) hb); have n2_ := Aside0.mk (Kd.R_elder' (by (with_reducible repeat (first | apply Kd.R_alloc | apply Kd.R_drewN | apply Kd.R_drew)); exact (Kd.R_mono (Kd.R_far (p := ⟨gb341, 1, none⟩) (Kd.R_far (p := ⟨gb341, 0, none⟩) (Kd.R_types HO329.out BK341.out (by decide)) (fun _ hk => hk.2) (.slice Ao28 t335.length co28)) (fun _ hk => hk.2) (.slice Ao32 t338.length co32)) (fun _ h_ => h_.1))) (Kd.R_base ho0) hb); have n3_ := Aside0.mk (Kd.R_elder' (by (with_reducible repeat (first | apply Kd.R_alloc | apply Kd.R_drewN | apply Kd.R_drew)); exact (Kd.R_mono (Kd.R_far (p := ⟨gb341, 1, none⟩) (Kd.R_far (p := ⟨gb341, 0, none⟩) (Kd.R_types HO332.out BK341.out (by decide)) (fun _ hk => hk.2) (.slice Ao28 t335.length co28)) (fun _ hk => hk.2) (.slice Ao32 t338.length co32)) (fun _ h_ => h_.1))) (Kd.R_base ho1) hb); have n4_ := Aside0.mk (Kd.R_elder' (by (with_reducible repeat (first | apply Kd.R_alloc | apply Kd.R_drewN | apply Kd.R_drew)); exact (Kd.R_mono (Kd.R_far (p := ⟨gb341, 1, none⟩) (Kd.R_far (p := ⟨gb341, 0, none⟩) (Kd.R_types HO337.out BK341.out (by decide)) (fun _ hk => hk.2) (.slice Ao28 t335.length co28)) (fun _ hk => hk.2) (.slice Ao32 t338.length co32)) (fun _ h_ => h_.1))) (Kd.R_base ho0) hb); have n5_ := Aside0.mk (Kd.R_elder' (by (with_reducible repeat (first | apply Kd.R_alloc | apply Kd.R_drewN | apply Kd.R_drew)); exact (Kd.R_mono (Kd.R_far (p := ⟨gb341, 1, none⟩) (Kd.R_far (p := ⟨gb341, 0, none⟩) (Kd.R_types HO340.out BK341.out (by decide)) (fun _ hk => hk.2) (.slice Ao28 t335.length co28)) (fun _ hk => hk.2) (.slice Ao32 t338.length co32)) (fun _ h_ => h_.1))) (Kd.R_base ho1) hb); have n6_ := Aside0.mk (Kd.R_lower (Kd.R_new' (Kd.R_new' (Kd.R_new' ho0 (Kd.R_lt (by (with_reducible repeat (first | apply Kd.R_alloc | apply Kd.R_drewN | apply Kd.R_drew)); exact (Kd.R_mono (Kd.R_far (p := ⟨gb341, 1, none⟩) (Kd.R_far (p := ⟨gb341, 0, none⟩) (Kd.R_types HO323.out BK341.out (by decide)) (fun _ hk => hk.2) (.slice Ao28 t335.length co28)) (fun _ hk => hk.2) (.slice Ao32 t338.length co32)) (fun _ h_ => h_.1))))) (Kd.R_lt (by (with_reducible repeat (first | apply Kd.R_alloc | apply Kd.R_drewN | apply Kd.R_drew)); exact (Kd.R_mono (Kd.R_far (p := ⟨gb341, 1, none⟩) (Kd.R_far (p := ⟨gb341, 0, none⟩) (Kd.R_types HO329.out BK341.out (by decide)) (fun _ hk => hk.2) (.slice Ao28 t335.length co28)) (fun _ hk => hk.2) (.slice Ao32 t338.length co32)) (fun _ h_ => h_.1))))) (Kd.R_lt (by (with_reducible repeat (first | apply Kd.R_alloc | apply Kd.R_drewN | apply Kd.R_drew)); exact (Kd.R_mono (Kd.R_far (p := ⟨gb341, 1, none⟩) (Kd.R_far (p := ⟨gb341, 0, none⟩) (Kd.R_types HO337.out BK341.out (by decide)) (fun _ hk => hk.2) (.slice Ao28 t335.length co28)) (fun _ hk => hk.2) (.slice Ao32 t338.length co32)) (fun _ h_ => h_.1))))) (below_size (by repeat (first | (with_reducible first | exact HB.out | apply below_alloc | apply pw_below_drewN | apply below_drew1 | refine below_set ?_ GE319.out | refine below_set ?_ GE334.out | refine below_set ?_ GE341.out) | exact HB.out)))); have n7_ := Aside0.mk (Kd.R_lower (Kd.R_new' (Kd.R_new' (Kd.R_new' ho1 (Kd.R_lt (by (with_reducible repeat (first | apply Kd.R_alloc | apply Kd.R_drewN | apply Kd.R_drew)); exact (Kd.R_mono (Kd.R_far (p := ⟨gb341, 1, none⟩) (Kd.R_far (p := ⟨gb341, 0, none⟩) (Kd.R_types HO326.out BK341.out (by decide)) (fun _ hk => hk.2) (.slice Ao28 t335.length co28)) (fun _ hk => hk.2) (.slice Ao32 t338.length co32)) (fun _ h_ => h_.1))))) (Kd.R_lt (by (with_reducible repeat (first | apply Kd.R_alloc | apply Kd.R_drewN | apply Kd.R_drew)); exact (Kd.R_mono (Kd.R_far (p := ⟨gb341, 1, none⟩) (Kd.R_far (p := ⟨gb341, 0, none⟩) (Kd.R_types HO332.out BK341.out (by decide)) (fun _ hk => hk.2) (.slice Ao28 t335.length co28)) (fun _ hk => hk.2) (.slice Ao32 t338.length co32)) (fun _ h_ => h_.1))))) (Kd.R_lt (by (with_reducible repeat (first | apply Kd.R_alloc | apply Kd.R_drewN | apply Kd.R_drew)); exact (Kd.R_mono (Kd.R_far (p := ⟨gb341, 1, none⟩) (Kd.R_far (p := ⟨gb341, 0, none⟩) (Kd.R_types HO340.out BK341.out (by decide)) (fun _ hk => hk.2) (.slice Ao28 t335.length co28)) (fun _ hk => hk.2) (.slice Ao32 t338.length co32)) (fun _ h_ => h_.1))))) (below_size (by repeat (first | (with_reducible first | exact HB.out | apply below_alloc | apply pw_below_drewN | apply below_drew1 | refine below_set ?_ GE319.out | refine below_set ?_ GE334.out | refine below_set ?_ GE341.out) | exact HB.out)))); have n8_ := Aside0.mk (blk_below (g := gb319) (o := .cells #[.slice A0_0 l0_0.length c0_0, .slice A0_1 l0_1.length c0_1] 32 (0, 0)) (by (with_reducible repeat (first | refine blk_drewN ?_ _ | refine blk_drew ?_ | refine blk_alloc ?_ _)); refine blk_far ?_ NB319_341.out _; (with_reducible repeat (first | refine blk_drewN ?_ _ | refine blk_drew ?_ | refine blk_alloc ?_ _)); refine blk_far ?_ NB319_341.out _; (with_reducible repeat (first | refine blk_drewN ?_ _ | refine blk_drew ?_ | refine blk_alloc ?_ _)); exact BK319.out) hb); have n9_ := Aside0.mk (blk_below (g := gb334) (o := .cells #[.slice Ao21 t327.length co21, .slice Ao24 t330.length co24] 25 (0, 0)) (by (with_reducible repeat (first | refine blk_drewN ?_ _ | refine blk_drew ?_ | refine blk_alloc ?_ _)); refine blk_far ?_ NB334_341.out _; (with_reducible repeat (first | refine blk_drewN ?_ _ | refine blk_drew ?_ | refine blk_alloc ?_ _)); refine blk_far ?_ NB334_341.out _; (with_reducible repeat (first | refine blk_drewN ?_ _ | refine blk_drew ?_ | refine blk_alloc ?_ _)); exact BK334.out) hb); have n10_ := Aside0.mk (blk_below (g := gb341) (o := .cells #[.slice Ao28 t335.length co28, .slice Ao32 t338.length co32] 25 (0, 0)) (by (with_reducible repeat (first | refine blk_drewN ?_ _ | refine blk_drew ?_ | refine blk_alloc ?_ _)); refine blk_put (cs := #[.slice Ao28 t335.length co28, .slice none 0 0]) ?_ 1 _ rfl; (with_reducible repeat (first | refine blk_drewN ?_ _ | refine blk_drew ?_ | refine blk_alloc ?_ _)); refine blk_put (cs := #[.slice none 0 0, .slice none 0 0]) ?_ 0 _ rfl; (with_reducible repeat (first | refine blk_drewN ?_ _ | refine blk_drew ?_ | refine blk_alloc ?_ _)); exact BK341.out) hb); have n11_ := Aside0.mk (below_step (by repeat (first | (with_reducible first | exact HB.out | apply below_alloc | apply pw_below_drewN | apply below_drew1 | refine below_set ?_ GE319.out | refine below_set ?_ GE334.out | refine below_set ?_ GE341.out) | exact HB.out)) hb); clear HO323; clear HO326; clear HO329; clear HO332; clear HO337; clear HO340; clear BK319; clear BK334; clear BK341; clear HB; have HO323 := n0_; have HO326 := n1_; have HO329 := n2_; have HO332 := n3_; have HO337 := n4_; have HO340 := n5_; have HO344 := n6_; have HO347 := n7_; have BK319 := n8_; have BK334 := n9_; have BK341 := n10_; have HB := n11_; clear n0_ n1_ n2_ n3_ n4_ n5_ n6_ n7_ n8_ n9_ n10_ n11_; (try clear hb); (try clear hb2); (try clear hk); (try clear hi); (try clear ho0); (try clear ho1)) | ((with_reducible refine gate_dst (N := 7) rfl ?_); refine box_event ?hg (N := 7) ?hd (cs := #[.slice none 0 0, .slice none 0 0]) (t := 25) ?hr ?_; (case hd => rfl); (case hg => rfl); (case hr => first | (go_simp; done) | (go_simp; rfl)); intro gb349 hg w34 hbox hb; have n0_ := Aside0.mk (Kd.R_below (by (with_reducible repeat (first | apply Kd.R_alloc | apply Kd.R_drewN | apply Kd.R_drew)); exact HO323.out) hb); have n1_ := Aside0.mk (Kd.R_below (by (with_reducible repeat (first | apply Kd.R_alloc | apply Kd.R_drewN | apply Kd.R_drew)); exact HO326.out) hb); have n2_ := Aside0.mk (Kd.R_below (by (with_reducible repeat (first | apply Kd.R_alloc | apply Kd.R_drewN | apply Kd.R_drew)); exact HO329.out) hb); have n3_ := Aside0.mk (Kd.R_below (by (with_reducible repeat (first | apply Kd.R_alloc | apply Kd.R_drewN | apply Kd.R_drew)); exact HO332.out) hb); have n4_ := Aside0.mk (Kd.R_below (by (with_reducible repeat (first | apply Kd.R_alloc | apply Kd.R_drewN | apply Kd.R_drew)); exact HO337.out) hb); have n5_ := Aside0.mk (Kd.R_below (by (with_reducible repeat (first | apply Kd.R_alloc | apply Kd.R_drewN | apply Kd.R_drew)); exact HO340.out) hb); have n6_ := Aside0.mk (Kd.R_below (by (with_reducible repeat (first | apply Kd.R_alloc | apply Kd.R_drewN | apply Kd.R_drew)); exact HO344.out) hb); have n7_ := Aside0.mk (Kd.R_below (by (with_reducible repeat (first | apply Kd.R_alloc | apply Kd.R_drewN | apply Kd.R_drew)); exact HO347.out) hb); have n8_ := Aside0.mk (blk_below (g := gb319) (o := .cells #[.slice A0_0 l0_0.length c0_0, .slice A0_1 l0_1.length c0_1] 32 (0, 0)) (by (with_reducible repeat (first | refine blk_drewN ?_ _ | refine blk_drew ?_ | refine blk_alloc ?_ _)); exact BK319.out) hb); have n9_ := Aside0.mk (blk_below (g := gb334) (o := .cells #[.slice Ao21 t327.length co21, .slice Ao24 t330.length co24] 25 (0, 0)) (by (with_reducible repeat (first | refine blk_drewN ?_ _ | refine blk_drew ?_ | refine blk_alloc ?_ _)); exact BK334.out) hb); have n10_ := Aside0.mk (blk_below (g := gb341) (o := .cells #[.slice Ao28 t335.length co28, .slice Ao32 t338.length co32] 25 (0, 0)) (by (with_reducible repeat (first | refine blk_drewN ?_ _ | refine blk_drew ?_ | refine blk_alloc ?_ _)); exact BK341.out) hb); have n11_ := Aside0.mk (below_step (by repeat (first | (with_reducible first | exact HB.out | apply below_alloc | apply pw_below_drewN | apply below_drew1 | refine below_set ?_ GE319.out | refine below_set ?_ GE334.out | refine below_set ?_ GE341.out) | exact HB.out)) hb); have n12_ := Aside0.mk (hbox); have n13_ := Aside0.mk ((by rw [hg]; exact (below_size (by repeat (first | (with_reducible first | exact HB.out | apply below_alloc | apply pw_below_drewN | apply below_drew1 | refine below_set ?_ GE319.out | refine below_set ?_ GE334.out | refine below_set ?_ GE341.out) | exact HB.out))) : w.heap.size ≤ gb349)); have n14_ := Aside0.mk ((by rw [hg]; exact (below_size (by repeat (first | (with_reducible first | exact HB.out | apply below_alloc | apply pw_below_drewN | apply below_drew1 | refine below_set ?_ GE319.out | refine below_set ?_ GE334.out | refine below_set ?_ GE341.out) | exact HB.out))) : w.heap.size ≤ gb349)); have n15_ := Aside0.mk ((by rw [hg]; exact Nat.ne_of_lt (blk_lt (g := gb319) (o := .cells #[.slice A0_0 l0_0.length c0_0, .slice A0_1 l0_1.length c0_1] 32 (0, 0)) (by (with_reducible repeat (first | refine blk_drewN ?_ _ | refine blk_drew ?_ | refine blk_alloc ?_ _)); exact BK319.out)) : gb319 ≠ gb349)); have n16_ := Aside0.mk ((by rw [hg]; exact Nat.ne_of_gt (blk_lt (g := gb319) (o := .cells #[.slice A0_0 l0_0.length c0_0, .slice A0_1 l0_1.length c0_1] 32 (0, 0)) (by (with_reducible repeat (first | refine blk_drewN ?_ _ | refine blk_drew ?_ | refine blk_alloc ?_ _)); exact BK319.out)) : gb349 ≠ gb319)); have n17_ := Aside0.mk ((by rw [hg]; exact Nat.ne_of_lt (blk_lt (g := gb334) (o := .cells #[.slice Ao21 t327.length co21, .slice Ao24 t330.length co24] 25 (0, 0)) (by (with_reducible repeat (first | refine blk_drewN ?_ _ | refine blk_drew ?_ | refine blk_alloc ?_ _)); exact BK334.out)) : gb334 ≠ gb349)); have n18_ := Aside0.mk ((by rw [hg]; exact Nat.ne_of_gt (blk_lt (g := gb334) (o := .cells #[.slice Ao21 t327.length co21, .slice Ao24 t330.length co24] 25 (0, 0)) (by (with_reducible repeat (first | refine blk_drewN ?_ _ | refine blk_drew ?_ | refine blk_alloc ?_ _)); exact BK334.out)) : gb349 ≠ gb334)); have n19_ := Aside0.mk ((by rw [hg]; exact Nat.ne_of_lt (blk_lt (g := gb341) (o := .cells #[.slice Ao28 t335.length co28, .slice Ao32 t338.length co32] 25 (0, 0)) (by (with_reducible repeat (first | refine blk_drewN ?_ _ | refine blk_drew ?_ | refine blk_alloc ?_ _)); exact BK341.out)) : gb341 ≠ gb349)); have n20_ := Aside0.mk ((by rw [hg]; exact Nat.ne_of_gt (blk_lt (g := gb341) (o := .cells #[.slice Ao28 t335.length co28, .slice Ao32 t338.length co32] 25 (0, 0)) (by (with_reducible repeat (first | refine blk_drewN ?_ _ | refine blk_drew ?_ | refine blk_alloc ?_ _)); exact BK341.out)) : gb349 ≠ gb341)); clear HO323; clear HO326; clear HO329; clear HO332; clear HO337; clear HO340; clear HO344; clear HO347; clear BK319; clear BK334; clear BK341; clear HB; have HO323 := n0_; have HO326 := n1_; have HO329 := n2_; have HO332 := n3_; have HO337 := n4_; have HO340 := n5_; have HO344 := n6_; have HO347 := n7_; have BK319 := n8_; have BK334 := n9_; have BK341 := n10_; have HB := n11_; have BK349 := n12_; have GW349 := n13_; have GE349 := n14_; have NB319_349 := n15_; have NB349_319 := n16_; have NB334_349 := n17_; have NB349_334 := n18_; have NB341_349 := n19_; have NB349_341 := n20_; clear n0_ n1_ n2_ n3_ n4_ n5_ n6_ n7_ n8_ n9_ n10_ n11_ n12_ n13_ n14_ n15_ n16_ n17_ n18_ n19_ n20_; clear hb hbox hg; obtain ⟨Ao35, co35, eo35⟩ := Kd.R_slice HO344.out; subst eo35; have hnb36 := NB349_319.out; have hnc36 := NB319_349.out; have hnb37 := NB349_334.out; have hnc37 := NB334_349.out; have hnb38 := NB349_341.out; have hnc38 := NB341_349.out; have hcz39_0 : w34.cell? ⟨gb349, 0, none⟩ = some (.slice none 0 0) := (blk_cell BK349.out 0).trans rfl; have hcz39_1 : w34.cell? ⟨gb349, 1, none⟩ = some (.slice none 0 0) := (blk_cell BK349.out 1).trans rfl; have hfz39_0 := blk_frozen BK349.out 0; have hfz39_1 := blk_frozen BK349.out 1; obtain ⟨Ao40, co40, eo40⟩ := Kd.R_slice HO347.out; subst eo40))
    (try simp only [Act.put, List.setIfInBounds_toArray, List.set_cons_zero, List.set_cons_succ])
    go_cut [40] (fun v40 wc => ∃ (kq : Nat) (x40_10 : Bool), v40 = .bool x40_10 ∧ Aside0 (laws_FnExactPlainSystem.j0 kq t333 t348 x40_10 l0_0 l0_1 t327 t330 t335 t338 t342 t345 = some true) ∧ Aside0 (kq ≤ k) ∧ Aside0 (Kd.R k58 58 wc w.heap.size (fun k_ => some k_ ≠ ((.slice Ao28 t335.length co28) : Value).ownBlock ∧ some k_ ≠ ((.slice Ao35 t342.length co35) : Value).ownBlock) (.slice Ao21 t327.length co21) t327) ∧ Aside0 (Kd.R k59 59 wc w.heap.size (fun k_ => some k_ ≠ ((.slice Ao32 t338.length co32) : Value).ownBlock ∧ some k_ ≠ ((.slice Ao40 t345.length co40) : Value).ownBlock) (.slice Ao24 t330.length co24) t330) ∧ Aside0 (Kd.R k58 58 wc w.heap.size (fun k_ => some k_ ≠ ((.slice Ao21 t327.length co21) : Value).ownBlock ∧ some k_ ≠ ((.slice Ao35 t342.length co35) : Value).ownBlock) (.slice Ao28 t335.length co28) t335) ∧ Aside0 (Kd.R k59 59 wc w.heap.size (fun k_ => some k_ ≠ ((.slice Ao24 t330.length co24) : Value).ownBlock ∧ some k_ ≠ ((.slice Ao40 t345.length co40) : Value).ownBlock) (.slice Ao32 t338.length co32) t338) ∧ Aside0 (Kd.R k58 58 wc w.heap.size (fun k_ => some k_ ≠ ((.slice Ao21 t327.length co21) : Value).ownBlock ∧ some k_ ≠ ((.slice Ao28 t335.length co28) : Value).ownBlock) (.slice Ao35 t342.length co35) t342) ∧ Aside0 (Kd.R k59 59 wc w.heap.size (fun k_ => some k_ ≠ ((.slice Ao24 t330.length co24) : Value).ownBlock ∧ some k_ ≠ ((.slice Ao32 t338.length co32) : Value).ownBlock) (.slice Ao40 t345.length co40) t345) ∧ Aside0 (wc.heap[gb319]? = some (.cells #[(.slice A0_0 l0_0.length c0_0), (.slice A0_1 l0_1.length c0_1)] 32 (0, 0))) ∧ Aside0 (wc.heap[gb334]? = some (.cells #[(.slice Ao21 t327.length co21), (.slice Ao24 t330.length co24)] 25 (0, 0))) ∧ Aside0 (wc.heap[gb341]? = some (.cells #[(.slice Ao28 t335.length co28), (.slice Ao32 t338.length co32)] 25 (0, 0))) ∧ Aside0 (wc.heap[gb349]? = some (.cells #[(.slice Ao35 t342.length co35), (.slice Ao40 t345.length co40)] 25 (0, 0))) ∧ Aside0 (Below w.heap.size w wc))
    case first =>
      have H := HC11.out
      clear HC11
      replace H := Option.bind_eq_some_iff.mp H
      obtain ⟨t350, A410, H⟩ := H
      replace H : (if t350 = true then (laws_FnExactPlainSystem.j0 k t333 t348 (t348 != t333) l0_0 l0_1 t327 t330 t335 t338 t342 t345) else (laws_FnExactPlainSystem.j0 k t333 t348 true l0_0 l0_1 t327 t330 t335 t338 t342 t345)) = some true := H
      have A41 := Aside0.mk A410
      clear A410
      by_cases c42 : t350 = true
      · subst c42
        have H1 : (laws_FnExactPlainSystem.j0 k t333 t348 (t348 != t333) l0_0 l0_1 t327 t330 t335 t338 t342 t345) = some true := by rw [if_pos rfl] at H; exact H
        clear H
        have H := H1
        clear H1
        have H' := Aside0.mk H
        clear H
        have hnb43 := NB349_319.out
        have hnc43 := NB319_349.out
        have hnb44 := NB349_334.out
        have hnc44 := NB334_349.out
        have hnb45 := NB349_341.out
        have hnc45 := NB341_349.out
        have hcz46_0 : w34.cell? ⟨gb349, 0, none⟩ = some (.slice none 0 0) := (blk_cell BK349.out 0).trans rfl
        have hcz46_1 : w34.cell? ⟨gb349, 1, none⟩ = some (.slice none 0 0) := (blk_cell BK349.out 1).trans rfl
        have hfz46_0 := blk_frozen BK349.out 0
        have hfz46_1 := blk_frozen BK349.out 1
        have hnb47 := NB334_319.out
        have hnc47 := NB319_334.out
        have hnb48 := NB334_341.out
        have hnc48 := NB341_334.out
        have hcz49_0 : w34.cell? ⟨gb334, 0, none⟩ = some (.slice Ao21 t327.length co21) := (blk_cell BK334.out 0).trans rfl
        have hcz49_1 : w34.cell? ⟨gb334, 1, none⟩ = some (.slice Ao24 t330.length co24) := (blk_cell BK334.out 1).trans rfl
        have hfz49_0 := blk_frozen BK334.out 0
        have hfz49_1 := blk_frozen BK334.out 1
        go_wp2_with (first | ((with_reducible refine gate_callee (f := 14) rfl ?_); refine goesL_ (some 34) rfl rfl Try.func14 (by kernel_rfl) rfl #[.agg #[.slice Ao35 t342.length co35, .slice Ao40 t345.length co40], .agg #[.slice Ao21 t327.length co21, .slice Ao24 t330.length co24]] rfl (by (try simp only [List.map_toArray, List.map_cons, List.map_nil]); first | done | rfl | (simp only [List.length_drop, List.length_take]; rfl)) ?_; (with_reducible refine (laws_eqSystem.calls k _ _ t342 _ _ t345 _ _ t327 _ _ t330 true _ ?side1 ?side2 ?side3 ?side4 ?side5 ?side6 ?side7 ?side8 A41.out).mono ?_); (case side1 => refine (Kd.R_reads' (e := 58) (base := w.heap.size) (ok := fun k_ => (((True ∧ some k_ ≠ (.slice Ao17 t321.length co17 : Value).ownBlock) ∧ some k_ ≠ (.slice Ao21 t327.length co21 : Value).ownBlock) ∧ some k_ ≠ (.slice Ao28 t335.length co28 : Value).ownBlock)) (n := t342.length) (c := co35) ?_).2.2; exact (by (with_reducible repeat (first | apply Kd.R_alloc | apply Kd.R_drewN | apply Kd.R_drew)); exact (Kd.R_mono (Kd.R_far (p := ⟨gb349, 1, none⟩) (Kd.R_far (p := ⟨gb349, 0, none⟩) (Kd.R_types HO344.out BK349.out (by decide)) (fun _ hk => hk.2) (.slice Ao35 t342.length co35)) (fun _ hk => hk.2) (.slice Ao40 t345.length co40)) (fun _ h_ => h_.1)))); (case side2 => exact (Kd.R_reads' HO344.out).2.1); (case side3 => refine (Kd.R_reads' (e := 59) (base := w.heap.size) (ok := fun k_ => (((True ∧ some k_ ≠ (.slice Ao18 t324.length co18 : Value).ownBlock) ∧ some k_ ≠ (.slice Ao24 t330.length co24 : Value).ownBlock) ∧ some k_ ≠ (.slice Ao32 t338.length co32 : Value).ownBlock)) (n := t345.length) (c := co40) ?_).2.2; exact (by (with_reducible repeat (first | apply Kd.R_alloc | apply Kd.R_drewN | apply Kd.R_drew)); exact (Kd.R_mono (Kd.R_far (p := ⟨gb349, 1, none⟩) (Kd.R_far (p := ⟨gb349, 0, none⟩) (Kd.R_types HO347.out BK349.out (by decide)) (fun _ hk => hk.2) (.slice Ao35 t342.length co35)) (fun _ hk => hk.2) (.slice Ao40 t345.length co40)) (fun _ h_ => h_.1)))); (case side4 => exact (Kd.R_reads' HO347.out).2.1); (case side5 => refine (Kd.R_reads' (e := 58) (base := w.heap.size) (ok := fun k_ => (((True ∧ some k_ ≠ (.slice Ao17 t321.length co17 : Value).ownBlock) ∧ some k_ ≠ (.slice Ao28 t335.length co28 : Value).ownBlock) ∧ some k_ ≠ (.slice Ao35 t342.length co35 : Value).ownBlock)) (n := t327.length) (c := co21) ?_).2.2; exact (by (with_reducible repeat (first | apply Kd.R_alloc | apply Kd.R_drewN | apply Kd.R_drew)); exact (Kd.R_mono (Kd.R_far (p := ⟨gb349, 1, none⟩) (Kd.R_far (p := ⟨gb349, 0, none⟩) (Kd.R_types HO329.out BK349.out (by decide)) (fun _ hk => hk.2) (.slice Ao35 t342.length co35)) (fun _ hk => hk.2) (.slice Ao40 t345.length co40)) (fun _ h_ => h_.1)))); (case side6 => exact (Kd.R_reads' HO329.out).2.1); (case side7 => refine (Kd.R_reads' (e := 59) (base := w.heap.size) (ok := fun k_ => (((True ∧ some k_ ≠ (.slice Ao18 t324.length co18 : Value).ownBlock) ∧ some k_ ≠ (.slice Ao32 t338.length co32 : Value).ownBlock) ∧ some k_ ≠ (.slice Ao40 t345.length co40 : Value).ownBlock)) (n := t330.length) (c := co24) ?_).2.2; exact (by (with_reducible repeat (first | apply Kd.R_alloc | apply Kd.R_drewN | apply Kd.R_drew)); exact (Kd.R_mono (Kd.R_far (p := ⟨gb349, 1, none⟩) (Kd.R_far (p := ⟨gb349, 0, none⟩) (Kd.R_types HO332.out BK349.out (by decide)) (fun _ hk => hk.2) (.slice Ao35 t342.length co35)) (fun _ hk => hk.2) (.slice Ao40 t345.length co40)) (fun _ h_ => h_.1)))); (case side8 => exact (Kd.R_reads' HO332.out).2.1); rintro e w50 ⟨rfl, hb⟩; refine ⟨_, rfl, ?_⟩; have n0_ := Aside0.mk (Kd.R_below (by (with_reducible repeat (first | apply Kd.R_alloc | apply Kd.R_drewN | apply Kd.R_drew)); exact (Kd.R_mono (Kd.R_far (p := ⟨gb349, 1, none⟩) (Kd.R_far (p := ⟨gb349, 0, none⟩) (Kd.R_types HO323.out BK349.out (by decide)) (fun _ hk => hk.2) (.slice Ao35 t342.length co35)) (fun _ hk => hk.2) (.slice Ao40 t345.length co40)) (fun _ h_ => h_.1))) hb); have n1_ := Aside0.mk (Kd.R_below (by (with_reducible repeat (first | apply Kd.R_alloc | apply Kd.R_drewN | apply Kd.R_drew)); exact (Kd.R_mono (Kd.R_far (p := ⟨gb349, 1, none⟩) (Kd.R_far (p := ⟨gb349, 0, none⟩) (Kd.R_types HO326.out BK349.out (by decide)) (fun _ hk => hk.2) (.slice Ao35 t342.length co35)) (fun _ hk => hk.2) (.slice Ao40 t345.length co40)) (fun _ h_ => h_.1))) hb); have n2_ := Aside0.mk (Kd.R_below (by (with_reducible repeat (first | apply Kd.R_alloc | apply Kd.R_drewN | apply Kd.R_drew)); exact (Kd.R_mono (Kd.R_far (p := ⟨gb349, 1, none⟩) (Kd.R_far (p := ⟨gb349, 0, none⟩) (Kd.R_types HO329.out BK349.out (by decide)) (fun _ hk => hk.2) (.slice Ao35 t342.length co35)) (fun _ hk => hk.2) (.slice Ao40 t345.length co40)) (fun _ h_ => h_.1))) hb); have n3_ := Aside0.mk (Kd.R_below (by (with_reducible repeat (first | apply Kd.R_alloc | apply Kd.R_drewN | apply Kd.R_drew)); exact (Kd.R_mono (Kd.R_far (p := ⟨gb349, 1, none⟩) (Kd.R_far (p := ⟨gb349, 0, none⟩) (Kd.R_types HO332.out BK349.out (by decide)) (fun _ hk => hk.2) (.slice Ao35 t342.length co35)) (fun _ hk => hk.2) (.slice Ao40 t345.length co40)) (fun _ h_ => h_.1))) hb); have n4_ := Aside0.mk (Kd.R_below (by (with_reducible repeat (first | apply Kd.R_alloc | apply Kd.R_drewN | apply Kd.R_drew)); exact (Kd.R_mono (Kd.R_far (p := ⟨gb349, 1, none⟩) (Kd.R_far (p := ⟨gb349, 0, none⟩) (Kd.R_types HO337.out BK349.out (by decide)) (fun _ hk => hk.2) (.slice Ao35 t342.length co35)) (fun _ hk => hk.2) (.slice Ao40 t345.length co40)) (fun _ h_ => h_.1))) hb); have n5_ := Aside0.mk (Kd.R_below (by (with_reducible repeat (first | apply Kd.R_alloc | apply Kd.R_drewN | apply Kd.R_drew)); exact (Kd.R_mono (Kd.R_far (p := ⟨gb349, 1, none⟩) (Kd.R_far (p := ⟨gb349, 0, none⟩) (Kd.R_types HO340.out BK349.out (by decide)) (fun _ hk => hk.2) (.slice Ao35 t342.length co35)) (fun _ hk => hk.2) (.slice Ao40 t345.length co40)) (fun _ h_ => h_.1))) hb); have n6_ := Aside0.mk (Kd.R_below (by (with_reducible repeat (first | apply Kd.R_alloc | apply Kd.R_drewN | apply Kd.R_drew)); exact (Kd.R_mono (Kd.R_far (p := ⟨gb349, 1, none⟩) (Kd.R_far (p := ⟨gb349, 0, none⟩) (Kd.R_types HO344.out BK349.out (by decide)) (fun _ hk => hk.2) (.slice Ao35 t342.length co35)) (fun _ hk => hk.2) (.slice Ao40 t345.length co40)) (fun _ h_ => h_.1))) hb); have n7_ := Aside0.mk (Kd.R_below (by (with_reducible repeat (first | apply Kd.R_alloc | apply Kd.R_drewN | apply Kd.R_drew)); exact (Kd.R_mono (Kd.R_far (p := ⟨gb349, 1, none⟩) (Kd.R_far (p := ⟨gb349, 0, none⟩) (Kd.R_types HO347.out BK349.out (by decide)) (fun _ hk => hk.2) (.slice Ao35 t342.length co35)) (fun _ hk => hk.2) (.slice Ao40 t345.length co40)) (fun _ h_ => h_.1))) hb); have n8_ := Aside0.mk (blk_below (g := gb319) (o := .cells #[.slice A0_0 l0_0.length c0_0, .slice A0_1 l0_1.length c0_1] 32 (0, 0)) (by (with_reducible repeat (first | refine blk_drewN ?_ _ | refine blk_drew ?_ | refine blk_alloc ?_ _)); refine blk_far ?_ NB319_349.out _; (with_reducible repeat (first | refine blk_drewN ?_ _ | refine blk_drew ?_ | refine blk_alloc ?_ _)); refine blk_far ?_ NB319_349.out _; (with_reducible repeat (first | refine blk_drewN ?_ _ | refine blk_drew ?_ | refine blk_alloc ?_ _)); exact BK319.out) hb); have n9_ := Aside0.mk (blk_below (g := gb334) (o := .cells #[.slice Ao21 t327.length co21, .slice Ao24 t330.length co24] 25 (0, 0)) (by (with_reducible repeat (first | refine blk_drewN ?_ _ | refine blk_drew ?_ | refine blk_alloc ?_ _)); refine blk_far ?_ NB334_349.out _; (with_reducible repeat (first | refine blk_drewN ?_ _ | refine blk_drew ?_ | refine blk_alloc ?_ _)); refine blk_far ?_ NB334_349.out _; (with_reducible repeat (first | refine blk_drewN ?_ _ | refine blk_drew ?_ | refine blk_alloc ?_ _)); exact BK334.out) hb); have n10_ := Aside0.mk (blk_below (g := gb341) (o := .cells #[.slice Ao28 t335.length co28, .slice Ao32 t338.length co32] 25 (0, 0)) (by (with_reducible repeat (first | refine blk_drewN ?_ _ | refine blk_drew ?_ | refine blk_alloc ?_ _)); refine blk_far ?_ NB341_349.out _; (with_reducible repeat (first | refine blk_drewN ?_ _ | refine blk_drew ?_ | refine blk_alloc ?_ _)); refine blk_far ?_ NB341_349.out _; (with_reducible repeat (first | refine blk_drewN ?_ _ | refine blk_drew ?_ | refine blk_alloc ?_ _)); exact BK341.out) hb); have n11_ := Aside0.mk (blk_below (g := gb349) (o := .cells #[.slice Ao35 t342.length co35, .slice Ao40 t345.length co40] 25 (0, 0)) (by (with_reducible repeat (first | refine blk_drewN ?_ _ | refine blk_drew ?_ | refine blk_alloc ?_ _)); refine blk_put (cs := #[.slice Ao35 t342.length co35, .slice none 0 0]) ?_ 1 _ rfl; (with_reducible repeat (first | refine blk_drewN ?_ _ | refine blk_drew ?_ | refine blk_alloc ?_ _)); refine blk_put (cs := #[.slice none 0 0, .slice none 0 0]) ?_ 0 _ rfl; (with_reducible repeat (first | refine blk_drewN ?_ _ | refine blk_drew ?_ | refine blk_alloc ?_ _)); exact BK349.out) hb); have n12_ := Aside0.mk (below_step (by repeat (first | (with_reducible first | exact HB.out | apply below_alloc | apply pw_below_drewN | apply below_drew1 | refine below_set ?_ GE319.out | refine below_set ?_ GE334.out | refine below_set ?_ GE341.out | refine below_set ?_ GE349.out) | exact HB.out)) hb); clear HO323; clear HO326; clear HO329; clear HO332; clear HO337; clear HO340; clear HO344; clear HO347; clear BK319; clear BK334; clear BK341; clear BK349; clear HB; have HO323 := n0_; have HO326 := n1_; have HO329 := n2_; have HO332 := n3_; have HO337 := n4_; have HO340 := n5_; have HO344 := n6_; have HO347 := n7_; have BK319 := n8_; have BK334 := n9_; have BK341 := n10_; have BK349 := n11_; have HB := n12_; clear n0_ n1_ n2_ n3_ n4_ n5_ n6_ n7_ n8_ n9_ n10_ n11_ n12_; (try clear hb); (try clear hb2); (try clear hk); (try clear hi)))
        go_meet
        case rel => exact ⟨_, ((t348 != t333)), (by first | rfl | (simp; done) | (simp [*]; done)), H', ⟨by first | omega | exact Nat.le_refl _⟩, ⟨by (with_reducible repeat (first | apply Kd.R_alloc | apply Kd.R_drewN | apply Kd.R_drew)); exact Kd.R_mono HO329.out (fun _ hk => ⟨hk.1.2, hk.2⟩)⟩, ⟨by (with_reducible repeat (first | apply Kd.R_alloc | apply Kd.R_drewN | apply Kd.R_drew)); exact Kd.R_mono HO332.out (fun _ hk => ⟨hk.1.2, hk.2⟩)⟩, ⟨by (with_reducible repeat (first | apply Kd.R_alloc | apply Kd.R_drewN | apply Kd.R_drew)); exact Kd.R_mono HO337.out (fun _ hk => ⟨hk.1.2, hk.2⟩)⟩, ⟨by (with_reducible repeat (first | apply Kd.R_alloc | apply Kd.R_drewN | apply Kd.R_drew)); exact Kd.R_mono HO340.out (fun _ hk => ⟨hk.1.2, hk.2⟩)⟩, ⟨by (with_reducible repeat (first | apply Kd.R_alloc | apply Kd.R_drewN | apply Kd.R_drew)); exact Kd.R_mono HO344.out (fun _ hk => ⟨hk.1.2, hk.2⟩)⟩, ⟨by (with_reducible repeat (first | apply Kd.R_alloc | apply Kd.R_drewN | apply Kd.R_drew)); exact Kd.R_mono HO347.out (fun _ hk => ⟨hk.1.2, hk.2⟩)⟩, ⟨by (with_reducible repeat (first | refine blk_drewN ?_ _ | refine blk_drew ?_ | refine blk_alloc ?_ _)); exact BK319.out⟩, ⟨by (with_reducible repeat (first | refine blk_drewN ?_ _ | refine blk_drew ?_ | refine blk_alloc ?_ _)); exact BK334.out⟩, ⟨by (with_reducible repeat (first | refine blk_drewN ?_ _ | refine blk_drew ?_ | refine blk_alloc ?_ _)); exact BK341.out⟩, ⟨by (with_reducible repeat (first | refine blk_drewN ?_ _ | refine blk_drew ?_ | refine blk_alloc ?_ _)); exact BK349.out⟩, ⟨by repeat (first | (with_reducible first | exact HB.out | apply below_alloc | apply pw_below_drewN | apply below_drew1 | refine below_set ?_ GE319.out | refine below_set ?_ GE334.out | refine below_set ?_ GE341.out | refine below_set ?_ GE349.out) | exact HB.out)⟩⟩
      · replace c42 := Bool.eq_false_iff.mpr c42
        subst c42
        have H1 : (laws_FnExactPlainSystem.j0 k t333 t348 true l0_0 l0_1 t327 t330 t335 t338 t342 t345) = some true := by rw [if_neg (show ¬ (false = true) by decide)] at H; exact H
        clear H
        have H := H1
        clear H1
        have H' := Aside0.mk H
        clear H
        have hnb51 := NB349_319.out
        have hnc51 := NB319_349.out
        have hnb52 := NB349_334.out
        have hnc52 := NB334_349.out
        have hnb53 := NB349_341.out
        have hnc53 := NB341_349.out
        have hcz54_0 : w34.cell? ⟨gb349, 0, none⟩ = some (.slice none 0 0) := (blk_cell BK349.out 0).trans rfl
        have hcz54_1 : w34.cell? ⟨gb349, 1, none⟩ = some (.slice none 0 0) := (blk_cell BK349.out 1).trans rfl
        have hfz54_0 := blk_frozen BK349.out 0
        have hfz54_1 := blk_frozen BK349.out 1
        have hnb55 := NB334_319.out
        have hnc55 := NB319_334.out
        have hnb56 := NB334_341.out
        have hnc56 := NB341_334.out
        have hcz57_0 : w34.cell? ⟨gb334, 0, none⟩ = some (.slice Ao21 t327.length co21) := (blk_cell BK334.out 0).trans rfl
        have hcz57_1 : w34.cell? ⟨gb334, 1, none⟩ = some (.slice Ao24 t330.length co24) := (blk_cell BK334.out 1).trans rfl
        have hfz57_0 := blk_frozen BK334.out 0
        have hfz57_1 := blk_frozen BK334.out 1
        go_wp2_with (first | ((with_reducible refine gate_callee (f := 14) rfl ?_); refine goesL_ (some 34) rfl rfl Try.func14 (by kernel_rfl) rfl #[.agg #[.slice Ao35 t342.length co35, .slice Ao40 t345.length co40], .agg #[.slice Ao21 t327.length co21, .slice Ao24 t330.length co24]] rfl (by (try simp only [List.map_toArray, List.map_cons, List.map_nil]); first | done | rfl | (simp only [List.length_drop, List.length_take]; rfl)) ?_; (with_reducible refine (laws_eqSystem.calls k _ _ t342 _ _ t345 _ _ t327 _ _ t330 false _ ?side1 ?side2 ?side3 ?side4 ?side5 ?side6 ?side7 ?side8 A41.out).mono ?_); (case side1 => refine (Kd.R_reads' (e := 58) (base := w.heap.size) (ok := fun k_ => (((True ∧ some k_ ≠ (.slice Ao17 t321.length co17 : Value).ownBlock) ∧ some k_ ≠ (.slice Ao21 t327.length co21 : Value).ownBlock) ∧ some k_ ≠ (.slice Ao28 t335.length co28 : Value).ownBlock)) (n := t342.length) (c := co35) ?_).2.2; exact (by (with_reducible repeat (first | apply Kd.R_alloc | apply Kd.R_drewN | apply Kd.R_drew)); exact (Kd.R_mono (Kd.R_far (p := ⟨gb349, 1, none⟩) (Kd.R_far (p := ⟨gb349, 0, none⟩) (Kd.R_types HO344.out BK349.out (by decide)) (fun _ hk => hk.2) (.slice Ao35 t342.length co35)) (fun _ hk => hk.2) (.slice Ao40 t345.length co40)) (fun _ h_ => h_.1)))); (case side2 => exact (Kd.R_reads' HO344.out).2.1); (case side3 => refine (Kd.R_reads' (e := 59) (base := w.heap.size) (ok := fun k_ => (((True ∧ some k_ ≠ (.slice Ao18 t324.length co18 : Value).ownBlock) ∧ some k_ ≠ (.slice Ao24 t330.length co24 : Value).ownBlock) ∧ some k_ ≠ (.slice Ao32 t338.length co32 : Value).ownBlock)) (n := t345.length) (c := co40) ?_).2.2; exact (by (with_reducible repeat (first | apply Kd.R_alloc | apply Kd.R_drewN | apply Kd.R_drew)); exact (Kd.R_mono (Kd.R_far (p := ⟨gb349, 1, none⟩) (Kd.R_far (p := ⟨gb349, 0, none⟩) (Kd.R_types HO347.out BK349.out (by decide)) (fun _ hk => hk.2) (.slice Ao35 t342.length co35)) (fun _ hk => hk.2) (.slice Ao40 t345.length co40)) (fun _ h_ => h_.1)))); (case side4 => exact (Kd.R_reads' HO347.out).2.1); (case side5 => refine (Kd.R_reads' (e := 58) (base := w.heap.size) (ok := fun k_ => (((True ∧ some k_ ≠ (.slice Ao17 t321.length co17 : Value).ownBlock) ∧ some k_ ≠ (.slice Ao28 t335.length co28 : Value).ownBlock) ∧ some k_ ≠ (.slice Ao35 t342.length co35 : Value).ownBlock)) (n := t327.length) (c := co21) ?_).2.2; exact (by (with_reducible repeat (first | apply Kd.R_alloc | apply Kd.R_drewN | apply Kd.R_drew)); exact (Kd.R_mono (Kd.R_far (p := ⟨gb349, 1, none⟩) (Kd.R_far (p := ⟨gb349, 0, none⟩) (Kd.R_types HO329.out BK349.out (by decide)) (fun _ hk => hk.2) (.slice Ao35 t342.length co35)) (fun _ hk => hk.2) (.slice Ao40 t345.length co40)) (fun _ h_ => h_.1)))); (case side6 => exact (Kd.R_reads' HO329.out).2.1); (case side7 => refine (Kd.R_reads' (e := 59) (base := w.heap.size) (ok := fun k_ => (((True ∧ some k_ ≠ (.slice Ao18 t324.length co18 : Value).ownBlock) ∧ some k_ ≠ (.slice Ao32 t338.length co32 : Value).ownBlock) ∧ some k_ ≠ (.slice Ao40 t345.length co40 : Value).ownBlock)) (n := t330.length) (c := co24) ?_).2.2; exact (by (with_reducible repeat (first | apply Kd.R_alloc | apply Kd.R_drewN | apply Kd.R_drew)); exact (Kd.R_mono (Kd.R_far (p := ⟨gb349, 1, none⟩) (Kd.R_far (p := ⟨gb349, 0, none⟩) (Kd.R_types HO332.out BK349.out (by decide)) (fun _ hk => hk.2) (.slice Ao35 t342.length co35)) (fun _ hk => hk.2) (.slice Ao40 t345.length co40)) (fun _ h_ => h_.1)))); (case side8 => exact (Kd.R_reads' HO332.out).2.1); rintro e w58 ⟨rfl, hb⟩; refine ⟨_, rfl, ?_⟩; have n0_ := Aside0.mk (Kd.R_below (by (with_reducible repeat (first | apply Kd.R_alloc | apply Kd.R_drewN | apply Kd.R_drew)); exact (Kd.R_mono (Kd.R_far (p := ⟨gb349, 1, none⟩) (Kd.R_far (p := ⟨gb349, 0, none⟩) (Kd.R_types HO323.out BK349.out (by decide)) (fun _ hk => hk.2) (.slice Ao35 t342.length co35)) (fun _ hk => hk.2) (.slice Ao40 t345.length co40)) (fun _ h_ => h_.1))) hb); have n1_ := Aside0.mk (Kd.R_below (by (with_reducible repeat (first | apply Kd.R_alloc | apply Kd.R_drewN | apply Kd.R_drew)); exact (Kd.R_mono (Kd.R_far (p := ⟨gb349, 1, none⟩) (Kd.R_far (p := ⟨gb349, 0, none⟩) (Kd.R_types HO326.out BK349.out (by decide)) (fun _ hk => hk.2) (.slice Ao35 t342.length co35)) (fun _ hk => hk.2) (.slice Ao40 t345.length co40)) (fun _ h_ => h_.1))) hb); have n2_ := Aside0.mk (Kd.R_below (by (with_reducible repeat (first | apply Kd.R_alloc | apply Kd.R_drewN | apply Kd.R_drew)); exact (Kd.R_mono (Kd.R_far (p := ⟨gb349, 1, none⟩) (Kd.R_far (p := ⟨gb349, 0, none⟩) (Kd.R_types HO329.out BK349.out (by decide)) (fun _ hk => hk.2) (.slice Ao35 t342.length co35)) (fun _ hk => hk.2) (.slice Ao40 t345.length co40)) (fun _ h_ => h_.1))) hb); have n3_ := Aside0.mk (Kd.R_below (by (with_reducible repeat (first | apply Kd.R_alloc | apply Kd.R_drewN | apply Kd.R_drew)); exact (Kd.R_mono (Kd.R_far (p := ⟨gb349, 1, none⟩) (Kd.R_far (p := ⟨gb349, 0, none⟩) (Kd.R_types HO332.out BK349.out (by decide)) (fun _ hk => hk.2) (.slice Ao35 t342.length co35)) (fun _ hk => hk.2) (.slice Ao40 t345.length co40)) (fun _ h_ => h_.1))) hb); have n4_ := Aside0.mk (Kd.R_below (by (with_reducible repeat (first | apply Kd.R_alloc | apply Kd.R_drewN | apply Kd.R_drew)); exact (Kd.R_mono (Kd.R_far (p := ⟨gb349, 1, none⟩) (Kd.R_far (p := ⟨gb349, 0, none⟩) (Kd.R_types HO337.out BK349.out (by decide)) (fun _ hk => hk.2) (.slice Ao35 t342.length co35)) (fun _ hk => hk.2) (.slice Ao40 t345.length co40)) (fun _ h_ => h_.1))) hb); have n5_ := Aside0.mk (Kd.R_below (by (with_reducible repeat (first | apply Kd.R_alloc | apply Kd.R_drewN | apply Kd.R_drew)); exact (Kd.R_mono (Kd.R_far (p := ⟨gb349, 1, none⟩) (Kd.R_far (p := ⟨gb349, 0, none⟩) (Kd.R_types HO340.out BK349.out (by decide)) (fun _ hk => hk.2) (.slice Ao35 t342.length co35)) (fun _ hk => hk.2) (.slice Ao40 t345.length co40)) (fun _ h_ => h_.1))) hb); have n6_ := Aside0.mk (Kd.R_below (by (with_reducible repeat (first | apply Kd.R_alloc | apply Kd.R_drewN | apply Kd.R_drew)); exact (Kd.R_mono (Kd.R_far (p := ⟨gb349, 1, none⟩) (Kd.R_far (p := ⟨gb349, 0, none⟩) (Kd.R_types HO344.out BK349.out (by decide)) (fun _ hk => hk.2) (.slice Ao35 t342.length co35)) (fun _ hk => hk.2) (.slice Ao40 t345.length co40)) (fun _ h_ => h_.1))) hb); have n7_ := Aside0.mk (Kd.R_below (by (with_reducible repeat (first | apply Kd.R_alloc | apply Kd.R_drewN | apply Kd.R_drew)); exact (Kd.R_mono (Kd.R_far (p := ⟨gb349, 1, none⟩) (Kd.R_far (p := ⟨gb349, 0, none⟩) (Kd.R_types HO347.out BK349.out (by decide)) (fun _ hk => hk.2) (.slice Ao35 t342.length co35)) (fun _ hk => hk.2) (.slice Ao40 t345.length co40)) (fun _ h_ => h_.1))) hb); have n8_ := Aside0.mk (blk_below (g := gb319) (o := .cells #[.slice A0_0 l0_0.length c0_0, .slice A0_1 l0_1.length c0_1] 32 (0, 0)) (by (with_reducible repeat (first | refine blk_drewN ?_ _ | refine blk_drew ?_ | refine blk_alloc ?_ _)); refine blk_far ?_ NB319_349.out _; (with_reducible repeat (first | refine blk_drewN ?_ _ | refine blk_drew ?_ | refine blk_alloc ?_ _)); refine blk_far ?_ NB319_349.out _; (with_reducible repeat (first | refine blk_drewN ?_ _ | refine blk_drew ?_ | refine blk_alloc ?_ _)); exact BK319.out) hb); have n9_ := Aside0.mk (blk_below (g := gb334) (o := .cells #[.slice Ao21 t327.length co21, .slice Ao24 t330.length co24] 25 (0, 0)) (by (with_reducible repeat (first | refine blk_drewN ?_ _ | refine blk_drew ?_ | refine blk_alloc ?_ _)); refine blk_far ?_ NB334_349.out _; (with_reducible repeat (first | refine blk_drewN ?_ _ | refine blk_drew ?_ | refine blk_alloc ?_ _)); refine blk_far ?_ NB334_349.out _; (with_reducible repeat (first | refine blk_drewN ?_ _ | refine blk_drew ?_ | refine blk_alloc ?_ _)); exact BK334.out) hb); have n10_ := Aside0.mk (blk_below (g := gb341) (o := .cells #[.slice Ao28 t335.length co28, .slice Ao32 t338.length co32] 25 (0, 0)) (by (with_reducible repeat (first | refine blk_drewN ?_ _ | refine blk_drew ?_ | refine blk_alloc ?_ _)); refine blk_far ?_ NB341_349.out _; (with_reducible repeat (first | refine blk_drewN ?_ _ | refine blk_drew ?_ | refine blk_alloc ?_ _)); refine blk_far ?_ NB341_349.out _; (with_reducible repeat (first | refine blk_drewN ?_ _ | refine blk_drew ?_ | refine blk_alloc ?_ _)); exact BK341.out) hb); have n11_ := Aside0.mk (blk_below (g := gb349) (o := .cells #[.slice Ao35 t342.length co35, .slice Ao40 t345.length co40] 25 (0, 0)) (by (with_reducible repeat (first | refine blk_drewN ?_ _ | refine blk_drew ?_ | refine blk_alloc ?_ _)); refine blk_put (cs := #[.slice Ao35 t342.length co35, .slice none 0 0]) ?_ 1 _ rfl; (with_reducible repeat (first | refine blk_drewN ?_ _ | refine blk_drew ?_ | refine blk_alloc ?_ _)); refine blk_put (cs := #[.slice none 0 0, .slice none 0 0]) ?_ 0 _ rfl; (with_reducible repeat (first | refine blk_drewN ?_ _ | refine blk_drew ?_ | refine blk_alloc ?_ _)); exact BK349.out) hb); have n12_ := Aside0.mk (below_step (by repeat (first | (with_reducible first | exact HB.out | apply below_alloc | apply pw_below_drewN | apply below_drew1 | refine below_set ?_ GE319.out | refine below_set ?_ GE334.out | refine below_set ?_ GE341.out | refine below_set ?_ GE349.out) | exact HB.out)) hb); clear HO323; clear HO326; clear HO329; clear HO332; clear HO337; clear HO340; clear HO344; clear HO347; clear BK319; clear BK334; clear BK341; clear BK349; clear HB; have HO323 := n0_; have HO326 := n1_; have HO329 := n2_; have HO332 := n3_; have HO337 := n4_; have HO340 := n5_; have HO344 := n6_; have HO347 := n7_; have BK319 := n8_; have BK334 := n9_; have BK341 := n10_; have BK349 := n11_; have HB := n12_; clear n0_ n1_ n2_ n3_ n4_ n5_ n6_ n7_ n8_ n9_ n10_ n11_ n12_; (try clear hb); (try clear hb2); (try clear hk); (try clear hi)))
        go_meet
        case rel => exact ⟨_, (true), (by first | rfl | (simp; done) | (simp [*]; done)), H', ⟨by first | omega | exact Nat.le_refl _⟩, ⟨by (with_reducible repeat (first | apply Kd.R_alloc | apply Kd.R_drewN | apply Kd.R_drew)); exact Kd.R_mono HO329.out (fun _ hk => ⟨hk.1.2, hk.2⟩)⟩, ⟨by (with_reducible repeat (first | apply Kd.R_alloc | apply Kd.R_drewN | apply Kd.R_drew)); exact Kd.R_mono HO332.out (fun _ hk => ⟨hk.1.2, hk.2⟩)⟩, ⟨by (with_reducible repeat (first | apply Kd.R_alloc | apply Kd.R_drewN | apply Kd.R_drew)); exact Kd.R_mono HO337.out (fun _ hk => ⟨hk.1.2, hk.2⟩)⟩, ⟨by (with_reducible repeat (first | apply Kd.R_alloc | apply Kd.R_drewN | apply Kd.R_drew)); exact Kd.R_mono HO340.out (fun _ hk => ⟨hk.1.2, hk.2⟩)⟩, ⟨by (with_reducible repeat (first | apply Kd.R_alloc | apply Kd.R_drewN | apply Kd.R_drew)); exact Kd.R_mono HO344.out (fun _ hk => ⟨hk.1.2, hk.2⟩)⟩, ⟨by (with_reducible repeat (first | apply Kd.R_alloc | apply Kd.R_drewN | apply Kd.R_drew)); exact Kd.R_mono HO347.out (fun _ hk => ⟨hk.1.2, hk.2⟩)⟩, ⟨by (with_reducible repeat (first | refine blk_drewN ?_ _ | refine blk_drew ?_ | refine blk_alloc ?_ _)); exact BK319.out⟩, ⟨by (with_reducible repeat (first | refine blk_drewN ?_ _ | refine blk_drew ?_ | refine blk_alloc ?_ _)); exact BK334.out⟩, ⟨by (with_reducible repeat (first | refine blk_drewN ?_ _ | refine blk_drew ?_ | refine blk_alloc ?_ _)); exact BK341.out⟩, ⟨by (with_reducible repeat (first | refine blk_drewN ?_ _ | refine blk_drew ?_ | refine blk_alloc ?_ _)); exact BK349.out⟩, ⟨by repeat (first | (with_reducible first | exact HB.out | apply below_alloc | apply pw_below_drewN | apply below_drew1 | refine below_set ?_ GE319.out | refine below_set ?_ GE334.out | refine below_set ?_ GE341.out | refine below_set ?_ GE349.out) | exact HB.out)⟩⟩
    case rest =>
      clear HC11
      try clear c1
      try clear c2
      try clear p2
      try clear c3
      try clear c3b0
      try clear c4
      try clear c5
      try clear c6
      try clear c14
      try clear c17
      try clear c19
      try clear c22
      try clear c23
      try clear c24
      try clear c29
      try clear c30
      try clear c36
      try clear c37
      try clear c38
      try clear c42
      try clear c43
      try clear c44
      try clear c45
      try clear c47
      try clear c48
      try clear c51
      try clear c52
      try clear c53
      try clear c55
      try clear c56
      try clear hcz13_0
      try clear hcz13_1
      try clear hcz15_0
      try clear hcz15_1
      try clear hcz23_0
      try clear hcz23_1
      try clear hcz25_0
      try clear hcz25_1
      try clear hcz31_0
      try clear hcz31_1
      try clear hcz39_0
      try clear hcz39_1
      try clear hcz46_0
      try clear hcz46_1
      try clear hcz49_0
      try clear hcz49_1
      try clear hcz54_0
      try clear hcz54_1
      try clear hcz57_0
      try clear hcz57_1
      try clear hcz5_0
      try clear hcz5_1
      try clear hfz13_0
      try clear hfz13_1
      try clear hfz15_0
      try clear hfz15_1
      try clear hfz23_0
      try clear hfz23_1
      try clear hfz25_0
      try clear hfz25_1
      try clear hfz31_0
      try clear hfz31_1
      try clear hfz39_0
      try clear hfz39_1
      try clear hfz46_0
      try clear hfz46_1
      try clear hfz49_0
      try clear hfz49_1
      try clear hfz54_0
      try clear hfz54_1
      try clear hfz57_0
      try clear hfz57_1
      try clear hfz5_0
      try clear hfz5_1
      obtain ⟨kq, x40_10, rfl, HA, HJ10, HO_335000, HO_335001, HO_342000, HO_342001, HO_350000, HO_350001, BK319, BK334, BK341, BK349, HB⟩ := hcut
      cases kq with
      | zero => exact absurd HA.out (by simp [laws_FnExactPlainSystem.j0])
      | succ kj10 =>
        have H := HA.out
        clear HA
        simp only [laws_FnExactPlainSystem.j0] at H
        by_cases c59 : x40_10 = true
        · subst c59
          have H1 : (some false) = some true := by rw [if_pos rfl] at H; exact H
          clear H
          have H := H1
          clear H1
          exact absurd H (by simp)
        · replace c59 := Bool.eq_false_iff.mpr c59
          subst c59
          have H1 : ((laws_toSystem.f kj10 l0_0 l0_1).bind fun bt351 => ((laws_eqSystem.f kj10 t335 t338 bt351.1 bt351.2).bind fun t357 => (if t357 = true then ((laws_markSystem.f kj10 t335 t338 1).bind fun bt358 => (if bt358.1 < 0 then (laws_FnExactPlainSystem.j1 kj10 t333 true l0_0 l0_1 t327 t330 t342 t345) else ((laws_eqSystem.f kj10 t342 t345 t327 t330).bind fun t361 => (if t361 = true then (laws_FnExactPlainSystem.j1 kj10 t333 (t348 != t333) l0_0 l0_1 t327 t330 t342 t345) else (laws_FnExactPlainSystem.j1 kj10 t333 true l0_0 l0_1 t327 t330 t342 t345))))) else (some false)))) = some true := by rw [if_neg (show ¬ (false = true) by decide)] at H; exact H
          clear H
          have H := H1
          clear H1
          replace H := Option.bind_eq_some_iff.mp H
          obtain ⟨⟨t351, t354⟩, A600, H⟩ := H
          replace H : ((laws_eqSystem.f kj10 t335 t338 t351 t354).bind fun t357 => (if t357 = true then ((laws_markSystem.f kj10 t335 t338 1).bind fun bt358 => (if bt358.1 < 0 then (laws_FnExactPlainSystem.j1 kj10 t333 true l0_0 l0_1 t327 t330 t342 t345) else ((laws_eqSystem.f kj10 t342 t345 t327 t330).bind fun t361 => (if t361 = true then (laws_FnExactPlainSystem.j1 kj10 t333 (t348 != t333) l0_0 l0_1 t327 t330 t342 t345) else (laws_FnExactPlainSystem.j1 kj10 t333 true l0_0 l0_1 t327 t330 t342 t345))))) else (some false))) = some true := H
          have A60 := Aside0.mk A600
          clear A600
          replace H := Option.bind_eq_some_iff.mp H
          obtain ⟨t357, A610, H⟩ := H
          replace H : (if t357 = true then ((laws_markSystem.f kj10 t335 t338 1).bind fun bt358 => (if bt358.1 < 0 then (laws_FnExactPlainSystem.j1 kj10 t333 true l0_0 l0_1 t327 t330 t342 t345) else ((laws_eqSystem.f kj10 t342 t345 t327 t330).bind fun t361 => (if t361 = true then (laws_FnExactPlainSystem.j1 kj10 t333 (t348 != t333) l0_0 l0_1 t327 t330 t342 t345) else (laws_FnExactPlainSystem.j1 kj10 t333 true l0_0 l0_1 t327 t330 t342 t345))))) else (some false)) = some true := H
          have A61 := Aside0.mk A610
          clear A610
          by_cases c62 : t357 = true
          · subst c62
            have H1 : ((laws_markSystem.f kj10 t335 t338 1).bind fun bt358 => (if bt358.1 < 0 then (laws_FnExactPlainSystem.j1 kj10 t333 true l0_0 l0_1 t327 t330 t342 t345) else ((laws_eqSystem.f kj10 t342 t345 t327 t330).bind fun t361 => (if t361 = true then (laws_FnExactPlainSystem.j1 kj10 t333 (t348 != t333) l0_0 l0_1 t327 t330 t342 t345) else (laws_FnExactPlainSystem.j1 kj10 t333 true l0_0 l0_1 t327 t330 t342 t345))))) = some true := by rw [if_pos rfl] at H; exact H
            clear H
            have H := H1
            clear H1
            replace H := Option.bind_eq_some_iff.mp H
            obtain ⟨⟨t358, t359, t360⟩, A630, H⟩ := H
            replace H : (if t358 < 0 then (laws_FnExactPlainSystem.j1 kj10 t333 true l0_0 l0_1 t327 t330 t342 t345) else ((laws_eqSystem.f kj10 t342 t345 t327 t330).bind fun t361 => (if t361 = true then (laws_FnExactPlainSystem.j1 kj10 t333 (t348 != t333) l0_0 l0_1 t327 t330 t342 t345) else (laws_FnExactPlainSystem.j1 kj10 t333 true l0_0 l0_1 t327 t330 t342 t345)))) = some true := H
            have A63 := Aside0.mk A630
            clear A630
            have HC64 := Aside0.mk H
            clear H
            try go_wp2
            have n0_ := Aside0.mk (Kd.R_drew HO_335000.out)
            have n1_ := Aside0.mk (Kd.R_drew HO_335001.out)
            have n2_ := Aside0.mk (Kd.R_drew HO_342000.out)
            have n3_ := Aside0.mk (Kd.R_drew HO_342001.out)
            have n4_ := Aside0.mk (Kd.R_drew HO_350000.out)
            have n5_ := Aside0.mk (Kd.R_drew HO_350001.out)
            have n6_ := Aside0.mk (blk_drew BK319.out)
            have n7_ := Aside0.mk (blk_drew BK334.out)
            have n8_ := Aside0.mk (blk_drew BK341.out)
            have n9_ := Aside0.mk (blk_drew BK349.out)
            have n10_ := Aside0.mk (below_drew1 HB.out)
            clear HO_335000
            clear HO_335001
            clear HO_342000
            clear HO_342001
            clear HO_350000
            clear HO_350001
            clear BK319
            clear BK334
            clear BK341
            clear BK349
            clear HB
            have HO_335000 := n0_
            have HO_335001 := n1_
            have HO_342000 := n2_
            have HO_342001 := n3_
            have HO_350000 := n4_
            have HO_350001 := n5_
            have BK319 := n6_
            have BK334 := n7_
            have BK341 := n8_
            have BK349 := n9_
            have HB := n10_
            clear n0_ n1_ n2_ n3_ n4_ n5_ n6_ n7_ n8_ n9_ n10_
            refine start_ (n := 5) (S := fun w' => w'.cell? ⟨gb341, 0, none⟩ = some (.slice Ao28 t335.length co28) ∧ w'.cell? ⟨gb341, 1, none⟩ = some (.slice Ao32 t338.length co32) ∧ w'.cell? ⟨gb319, 0, none⟩ = some (.slice A0_0 l0_0.length c0_0) ∧ w'.cell? ⟨gb319, 1, none⟩ = some (.slice A0_1 l0_1.length c0_1)) (ds := []) #[false, false, false, false, false] (by kernel_rfl) rfl rfl ⟨(blk_cell BK341.out 0).trans rfl, (blk_cell BK341.out 1).trans rfl, (blk_cell BK319.out 0).trans rfl, (blk_cell BK319.out 1).trans rfl⟩ (fun hHeld => ?_)
            generalize wc.drew = w65 at HO_335000 HO_335001 HO_342000 HO_342001 HO_350000 HO_350001 BK319 BK334 BK341 BK349 HB hHeld ⊢
            refine take_ (i := 0) (N := some 41) (v := ?_) (a' := ?_) #[true, false, false, false, false] rfl rfl (by kernel_rfl) (fun _ _ _ h => h) (Or.inl ⟨by rfl, ?_⟩) hHeld ?_ ?_
            rotate_left
            · rintro w' ⟨s0, s1, s2, s3⟩
              go_simp
              with_reducible rfl
            rotate_left
            · simp only [Act.put, List.setIfInBounds_toArray, List.set_cons_zero, List.set_cons_succ, i64_w, i32_w]
              rfl
            refine take_ (i := 1) (N := some 42) (v := ?_) (a' := ?_) #[true, true, false, false, false] rfl rfl (by kernel_rfl) (fun _ _ _ h => h) (Or.inl ⟨by rfl, ?_⟩) hHeld ?_ ?_
            rotate_left
            · rintro w' ⟨s0, s1, s2, s3⟩
              go_simp
              with_reducible rfl
            rotate_left
            · simp only [Act.put, List.setIfInBounds_toArray, List.set_cons_zero, List.set_cons_succ, i64_w, i32_w]
              rfl
            refine one_ (i := 2) (N := some 43) #[true, true, true, false, false] rfl rfl (by kernel_rfl) (by decide) (fun K hK => ?_)
            refine goes_ Try.func19 (by kernel_rfl) rfl #[.agg #[.slice A0_0 l0_0.length c0_0, .slice A0_1 l0_1.length c0_1]] (by rfl) rfl rfl (by (try simp only [List.map_toArray, List.map_cons, List.map_nil]); first | done | rfl | (simp only [List.length_drop, List.length_take]; rfl)) ?_
            with_reducible refine (laws_toSystem.calls kj10 _ _ l0_0 _ _ l0_1 t351 t354 _ ?side1 ?side2 ?side3 ?side4 A60.out).mono ?_
            (case side1 => repeat (first | exact (Kd.C_below HR0_0.out HB.out) | (with_reducible refine Kd.C_alloc ?_ _) | (with_reducible refine Kd.C_drewN ?_ _) | (with_reducible refine Kd.C_drew ?_)))
            (case side2 => exact HC0_0.out)
            (case side3 => repeat (first | exact (Kd.C_below HR0_1.out HB.out) | (with_reducible refine Kd.C_alloc ?_ _) | (with_reducible refine Kd.C_drewN ?_ _) | (with_reducible refine Kd.C_drew ?_)))
            (case side4 => exact HC0_1.out)
            rintro e w66 ⟨v352, v355, rfl, ho0, ho1, hb⟩
            refine ⟨_, rfl, ?_⟩
            have n0_ := Aside0.mk (Kd.R_elder' (by (with_reducible repeat (first | apply Kd.R_alloc | apply Kd.R_drewN | apply Kd.R_drew)); exact HO_335000.out) (Kd.R_base ho0) hb)
            have n1_ := Aside0.mk (Kd.R_elder' (by (with_reducible repeat (first | apply Kd.R_alloc | apply Kd.R_drewN | apply Kd.R_drew)); exact HO_335001.out) (Kd.R_base ho1) hb)
            have n2_ := Aside0.mk (Kd.R_elder' (by (with_reducible repeat (first | apply Kd.R_alloc | apply Kd.R_drewN | apply Kd.R_drew)); exact HO_342000.out) (Kd.R_base ho0) hb)
            have n3_ := Aside0.mk (Kd.R_elder' (by (with_reducible repeat (first | apply Kd.R_alloc | apply Kd.R_drewN | apply Kd.R_drew)); exact HO_342001.out) (Kd.R_base ho1) hb)
            have n4_ := Aside0.mk (Kd.R_elder' (by (with_reducible repeat (first | apply Kd.R_alloc | apply Kd.R_drewN | apply Kd.R_drew)); exact HO_350000.out) (Kd.R_base ho0) hb)
            have n5_ := Aside0.mk (Kd.R_elder' (by (with_reducible repeat (first | apply Kd.R_alloc | apply Kd.R_drewN | apply Kd.R_drew)); exact HO_350001.out) (Kd.R_base ho1) hb)
            have n6_ := Aside0.mk (Kd.R_lower (Kd.R_new' (Kd.R_new' (Kd.R_new' ho0 (Kd.R_lt (by (with_reducible repeat (first | apply Kd.R_alloc | apply Kd.R_drewN | apply Kd.R_drew)); exact HO_335000.out))) (Kd.R_lt (by (with_reducible repeat (first | apply Kd.R_alloc | apply Kd.R_drewN | apply Kd.R_drew)); exact HO_342000.out))) (Kd.R_lt (by (with_reducible repeat (first | apply Kd.R_alloc | apply Kd.R_drewN | apply Kd.R_drew)); exact HO_350000.out))) (below_size (by repeat (first | (with_reducible first | exact HB.out | apply below_alloc | apply pw_below_drewN | apply below_drew1 | refine below_set ?_ GE319.out | refine below_set ?_ GE334.out | refine below_set ?_ GE341.out | refine below_set ?_ GE349.out) | exact HB.out))))
            have n7_ := Aside0.mk (Kd.R_lower (Kd.R_new' (Kd.R_new' (Kd.R_new' ho1 (Kd.R_lt (by (with_reducible repeat (first | apply Kd.R_alloc | apply Kd.R_drewN | apply Kd.R_drew)); exact HO_335001.out))) (Kd.R_lt (by (with_reducible repeat (first | apply Kd.R_alloc | apply Kd.R_drewN | apply Kd.R_drew)); exact HO_342001.out))) (Kd.R_lt (by (with_reducible repeat (first | apply Kd.R_alloc | apply Kd.R_drewN | apply Kd.R_drew)); exact HO_350001.out))) (below_size (by repeat (first | (with_reducible first | exact HB.out | apply below_alloc | apply pw_below_drewN | apply below_drew1 | refine below_set ?_ GE319.out | refine below_set ?_ GE334.out | refine below_set ?_ GE341.out | refine below_set ?_ GE349.out) | exact HB.out))))
            have n8_ := Aside0.mk (blk_below (g := gb319) (o := .cells #[.slice A0_0 l0_0.length c0_0, .slice A0_1 l0_1.length c0_1] 32 (0, 0)) (by (with_reducible repeat (first | refine blk_drewN ?_ _ | refine blk_drew ?_ | refine blk_alloc ?_ _)); exact BK319.out) hb)
            have n9_ := Aside0.mk (blk_below (g := gb334) (o := .cells #[.slice Ao21 t327.length co21, .slice Ao24 t330.length co24] 25 (0, 0)) (by (with_reducible repeat (first | refine blk_drewN ?_ _ | refine blk_drew ?_ | refine blk_alloc ?_ _)); exact BK334.out) hb)
            have n10_ := Aside0.mk (blk_below (g := gb341) (o := .cells #[.slice Ao28 t335.length co28, .slice Ao32 t338.length co32] 25 (0, 0)) (by (with_reducible repeat (first | refine blk_drewN ?_ _ | refine blk_drew ?_ | refine blk_alloc ?_ _)); exact BK341.out) hb)
            have n11_ := Aside0.mk (blk_below (g := gb349) (o := .cells #[.slice Ao35 t342.length co35, .slice Ao40 t345.length co40] 25 (0, 0)) (by (with_reducible repeat (first | refine blk_drewN ?_ _ | refine blk_drew ?_ | refine blk_alloc ?_ _)); exact BK349.out) hb)
            have n12_ := Aside0.mk (below_step (by repeat (first | (with_reducible first | exact HB.out | apply below_alloc | apply pw_below_drewN | apply below_drew1 | refine below_set ?_ GE319.out | refine below_set ?_ GE334.out | refine below_set ?_ GE341.out | refine below_set ?_ GE349.out) | exact HB.out)) hb)
            clear HO_335000
            clear HO_335001
            clear HO_342000
            clear HO_342001
            clear HO_350000
            clear HO_350001
            clear BK319
            clear BK334
            clear BK341
            clear BK349
            clear HB
            have HO_335000 := n0_
            have HO_335001 := n1_
            have HO_342000 := n2_
            have HO_342001 := n3_
            have HO_350000 := n4_
            have HO_350001 := n5_
            have HO353 := n6_
            have HO356 := n7_
            have BK319 := n8_
            have BK334 := n9_
            have BK341 := n10_
            have BK349 := n11_
            have HB := n12_
            clear n0_ n1_ n2_ n3_ n4_ n5_ n6_ n7_ n8_ n9_ n10_ n11_ n12_
            (try clear hb)
            (try clear hb2)
            (try clear hk)
            (try clear hi)
            (try clear ho0)
            (try clear ho1)
            obtain ⟨Ao67, co67, eo67⟩ := Kd.R_slice HO353.out
            (first | subst eo67 | (injection eo67 with f1_ f2_ f3_; have f4_ := f1_.symm; have f5_ := f3_.symm; clear f1_ f2_ f3_; subst f4_; subst f5_))
            obtain ⟨Ao68, co68, eo68⟩ := Kd.R_slice HO356.out
            (first | subst eo68 | (injection eo68 with f1_ f2_ f3_; have f4_ := f1_.symm; have f5_ := f3_.symm; clear f1_ f2_ f3_; subst f4_; subst f5_))
            refine hK.out _ _ ⟨(blk_cell BK341.out 0).trans rfl, (blk_cell BK341.out 1).trans rfl, (blk_cell BK319.out 0).trans rfl, (blk_cell BK319.out 1).trans rfl⟩ (fun hHeld => ?_)
            clear hK K
            refine norm_ (a' := ?_) ?_ ?_
            rotate_left
            · show Act.put _ (some 43) _ = _
              simp only [Act.put, List.setIfInBounds_toArray, List.set_cons_zero, List.set_cons_succ, i64_w, i32_w]
              rfl
            refine one_ (i := 3) (N := some 44) #[true, true, true, true, false] rfl rfl (by kernel_rfl) (by decide) (fun K hK => ?_)
            refine goes_ Try.func14 (by kernel_rfl) rfl #[.agg #[.slice Ao28 t335.length co28, .slice Ao32 t338.length co32], .agg #[.slice Ao67 t351.length co67, .slice Ao68 t354.length co68]] (by rfl) rfl rfl (by (try simp only [List.map_toArray, List.map_cons, List.map_nil]); first | done | rfl | (simp only [List.length_drop, List.length_take]; rfl)) ?_
            with_reducible refine (laws_eqSystem.calls kj10 _ _ t335 _ _ t338 _ _ t351 _ _ t354 true _ ?side1 ?side2 ?side3 ?side4 ?side5 ?side6 ?side7 ?side8 A61.out).mono ?_
            (case side1 => repeat (first | exact (Kd.R_reads' HO_342000.out).2.2 | (with_reducible refine Kd.C_alloc ?_ _) | (with_reducible refine Kd.C_drewN ?_ _) | (with_reducible refine Kd.C_drew ?_)))
            (case side2 => exact (Kd.R_reads' HO_342000.out).2.1)
            (case side3 => repeat (first | exact (Kd.R_reads' HO_342001.out).2.2 | (with_reducible refine Kd.C_alloc ?_ _) | (with_reducible refine Kd.C_drewN ?_ _) | (with_reducible refine Kd.C_drew ?_)))
            (case side4 => exact (Kd.R_reads' HO_342001.out).2.1)
            (case side5 => repeat (first | exact (Kd.R_reads' HO353.out).2.2 | (with_reducible refine Kd.C_alloc ?_ _) | (with_reducible refine Kd.C_drewN ?_ _) | (with_reducible refine Kd.C_drew ?_)))
            (case side6 => exact (Kd.R_reads' HO353.out).2.1)
            (case side7 => repeat (first | exact (Kd.R_reads' HO356.out).2.2 | (with_reducible refine Kd.C_alloc ?_ _) | (with_reducible refine Kd.C_drewN ?_ _) | (with_reducible refine Kd.C_drew ?_)))
            (case side8 => exact (Kd.R_reads' HO356.out).2.1)
            rintro e w69 ⟨rfl, hb⟩
            refine ⟨_, rfl, ?_⟩
            have n0_ := Aside0.mk (Kd.R_below (by (with_reducible repeat (first | apply Kd.R_alloc | apply Kd.R_drewN | apply Kd.R_drew)); exact HO_335000.out) hb)
            have n1_ := Aside0.mk (Kd.R_below (by (with_reducible repeat (first | apply Kd.R_alloc | apply Kd.R_drewN | apply Kd.R_drew)); exact HO_335001.out) hb)
            have n2_ := Aside0.mk (Kd.R_below (by (with_reducible repeat (first | apply Kd.R_alloc | apply Kd.R_drewN | apply Kd.R_drew)); exact HO_342000.out) hb)
            have n3_ := Aside0.mk (Kd.R_below (by (with_reducible repeat (first | apply Kd.R_alloc | apply Kd.R_drewN | apply Kd.R_drew)); exact HO_342001.out) hb)
            have n4_ := Aside0.mk (Kd.R_below (by (with_reducible repeat (first | apply Kd.R_alloc | apply Kd.R_drewN | apply Kd.R_drew)); exact HO_350000.out) hb)
            have n5_ := Aside0.mk (Kd.R_below (by (with_reducible repeat (first | apply Kd.R_alloc | apply Kd.R_drewN | apply Kd.R_drew)); exact HO_350001.out) hb)
            have n6_ := Aside0.mk (Kd.R_below (by (with_reducible repeat (first | apply Kd.R_alloc | apply Kd.R_drewN | apply Kd.R_drew)); exact HO353.out) hb)
            have n7_ := Aside0.mk (Kd.R_below (by (with_reducible repeat (first | apply Kd.R_alloc | apply Kd.R_drewN | apply Kd.R_drew)); exact HO356.out) hb)
            have n8_ := Aside0.mk (blk_below (g := gb319) (o := .cells #[.slice A0_0 l0_0.length c0_0, .slice A0_1 l0_1.length c0_1] 32 (0, 0)) (by (with_reducible repeat (first | refine blk_drewN ?_ _ | refine blk_drew ?_ | refine blk_alloc ?_ _)); exact BK319.out) hb)
            have n9_ := Aside0.mk (blk_below (g := gb334) (o := .cells #[.slice Ao21 t327.length co21, .slice Ao24 t330.length co24] 25 (0, 0)) (by (with_reducible repeat (first | refine blk_drewN ?_ _ | refine blk_drew ?_ | refine blk_alloc ?_ _)); exact BK334.out) hb)
            have n10_ := Aside0.mk (blk_below (g := gb341) (o := .cells #[.slice Ao28 t335.length co28, .slice Ao32 t338.length co32] 25 (0, 0)) (by (with_reducible repeat (first | refine blk_drewN ?_ _ | refine blk_drew ?_ | refine blk_alloc ?_ _)); exact BK341.out) hb)
            have n11_ := Aside0.mk (blk_below (g := gb349) (o := .cells #[.slice Ao35 t342.length co35, .slice Ao40 t345.length co40] 25 (0, 0)) (by (with_reducible repeat (first | refine blk_drewN ?_ _ | refine blk_drew ?_ | refine blk_alloc ?_ _)); exact BK349.out) hb)
            have n12_ := Aside0.mk (below_step (by repeat (first | (with_reducible first | exact HB.out | apply below_alloc | apply pw_below_drewN | apply below_drew1 | refine below_set ?_ GE319.out | refine below_set ?_ GE334.out | refine below_set ?_ GE341.out | refine below_set ?_ GE349.out) | exact HB.out)) hb)
            clear HO_335000
            clear HO_335001
            clear HO_342000
            clear HO_342001
            clear HO_350000
            clear HO_350001
            clear HO353
            clear HO356
            clear BK319
            clear BK334
            clear BK341
            clear BK349
            clear HB
            have HO_335000 := n0_
            have HO_335001 := n1_
            have HO_342000 := n2_
            have HO_342001 := n3_
            have HO_350000 := n4_
            have HO_350001 := n5_
            have HO353 := n6_
            have HO356 := n7_
            have BK319 := n8_
            have BK334 := n9_
            have BK341 := n10_
            have BK349 := n11_
            have HB := n12_
            clear n0_ n1_ n2_ n3_ n4_ n5_ n6_ n7_ n8_ n9_ n10_ n11_ n12_
            (try clear hb)
            (try clear hb2)
            (try clear hk)
            (try clear hi)
            refine hK.out _ _ ⟨(blk_cell BK341.out 0).trans rfl, (blk_cell BK341.out 1).trans rfl, (blk_cell BK319.out 0).trans rfl, (blk_cell BK319.out 1).trans rfl⟩ (fun hHeld => ?_)
            clear hK K
            refine norm_ (a' := ?_) ?_ ?_
            rotate_left
            · show Act.put _ (some 44) _ = _
              simp only [Act.put, List.setIfInBounds_toArray, List.set_cons_zero, List.set_cons_succ, i64_w, i32_w]
              rfl
            refine pure_ (i := 4) (N := some 45) (v := ?_) (a' := ?_) #[true, true, true, true, true] rfl rfl (by kernel_rfl) (fun _ _ _ h => h) (Or.inl ⟨by rfl, ?_⟩) ?_ ?_
            rotate_left
            · intro w'
              go_simp
              with_reducible rfl
            rotate_left
            · simp only [Act.put, List.setIfInBounds_toArray, List.set_cons_zero, List.set_cons_succ, i64_w, i32_w]
              rfl
            refine done_ (by kernel_rfl) ?_
            have hnb70 := NB341_319.out
            have hnc70 := NB319_341.out
            have hnb71 := NB341_334.out
            have hnc71 := NB334_341.out
            have hnb72 := NB341_349.out
            have hnc72 := NB349_341.out
            have hcz73_0 : w69.cell? ⟨gb341, 0, none⟩ = some (.slice Ao28 t335.length co28) := (blk_cell BK341.out 0).trans rfl
            have hcz73_1 : w69.cell? ⟨gb341, 1, none⟩ = some (.slice Ao32 t338.length co32) := (blk_cell BK341.out 1).trans rfl
            have hfz73_0 := blk_frozen BK341.out 0
            have hfz73_1 := blk_frozen BK341.out 1
            go_upto_region 14 with (first | ((with_reducible refine gate_callee (f := 15) rfl ?_); refine goesL_ (some 48) rfl rfl Try.func15 (by kernel_rfl) rfl #[.agg #[.slice Ao28 t335.length co28, .slice Ao32 t338.length co32], .int .i64 1] rfl (by (try simp only [List.map_toArray, List.map_cons, List.map_nil]); first | done | rfl | (simp only [List.length_drop, List.length_take]; rfl)) ?_; (with_reducible refine (laws_markSystem.calls kj10 (fun k_ => some k_ = (.slice Ao28 t335.length co28 : Value).ownBlock) (.slice Ao28 t335.length co28) t335 (fun k_ => some k_ = (.slice Ao32 t338.length co32 : Value).ownBlock) (.slice Ao32 t338.length co32) t338 1 t358 t359 t360 w _ ?side1 ?side2 ?side3 A63.out).mono ?_); (case side1 => repeat (first | (with_reducible first | exact HB.out | apply below_alloc | apply pw_below_drewN | apply below_drew1 | refine below_set ?_ GE319.out | refine below_set ?_ GE334.out | refine below_set ?_ GE341.out | refine below_set ?_ GE349.out) | exact HB.out)); (case side2 => exact Kd.R_tight rfl HO_342000.out); (case side3 => exact Kd.R_tight rfl HO_342001.out); rintro e w74 ⟨rfl, hy0, hy1, hb, hkp⟩; refine ⟨_, rfl, ?_⟩; have n0_ := Aside0.mk (Kd.R_mono (ok' := fun k_ => some k_ ≠ (.slice Ao28 t335.length co28 : Value).ownBlock ∧ some k_ ≠ (.slice Ao35 t342.length co35 : Value).ownBlock ∧ some k_ ≠ (.slice Ao67 t351.length co67 : Value).ownBlock) (Kd.R_keptB ((Kd.R_apart' HO_335000.out (Kd.R_typed HO_342001.out) (by decide))) hkp (fun k_ hk_ hs_ => Or.elim hs_ (fun e_ => (hk_.1.1.1) e_) (fun e_ => (hk_.2) e_))) (fun k_ hk_ => ⟨hk_.1.1.1.1, hk_.1.1.1.2, hk_.1.1.2⟩)); have n1_ := Aside0.mk (Kd.R_mono (ok' := fun k_ => some k_ ≠ (.slice Ao32 t338.length co32 : Value).ownBlock ∧ some k_ ≠ (.slice Ao40 t345.length co40 : Value).ownBlock ∧ some k_ ≠ (.slice Ao68 t354.length co68 : Value).ownBlock) (Kd.R_keptB ((Kd.R_apart' HO_335001.out (Kd.R_typed HO_342000.out) (by decide))) hkp (fun k_ hk_ hs_ => Or.elim hs_ (fun e_ => (hk_.2) e_) (fun e_ => (hk_.1.1.1) e_))) (fun k_ hk_ => ⟨hk_.1.1.1.1, hk_.1.1.1.2, hk_.1.1.2⟩)); have n2_ := Aside0.mk (Kd.R_reok rfl hy0 (fun k_ e_ => HO_342000.out.1 k_ e_)); have n3_ := Aside0.mk (Kd.R_reok rfl hy1 (fun k_ e_ => HO_342001.out.1 k_ e_)); have n4_ := Aside0.mk (Kd.R_mono (ok' := fun k_ => some k_ ≠ (.slice Ao21 t327.length co21 : Value).ownBlock ∧ some k_ ≠ (.slice Ao28 t335.length co28 : Value).ownBlock ∧ some k_ ≠ (.slice Ao67 t351.length co67 : Value).ownBlock) (Kd.R_keptB ((Kd.R_apart' HO_350000.out (Kd.R_typed HO_342001.out) (by decide))) hkp (fun k_ hk_ hs_ => Or.elim hs_ (fun e_ => (hk_.1.1.2) e_) (fun e_ => (hk_.2) e_))) (fun k_ hk_ => ⟨hk_.1.1.1.1, hk_.1.1.1.2, hk_.1.1.2⟩)); have n5_ := Aside0.mk (Kd.R_mono (ok' := fun k_ => some k_ ≠ (.slice Ao24 t330.length co24 : Value).ownBlock ∧ some k_ ≠ (.slice Ao32 t338.length co32 : Value).ownBlock ∧ some k_ ≠ (.slice Ao68 t354.length co68 : Value).ownBlock) (Kd.R_keptB ((Kd.R_apart' HO_350001.out (Kd.R_typed HO_342000.out) (by decide))) hkp (fun k_ hk_ hs_ => Or.elim hs_ (fun e_ => (hk_.2) e_) (fun e_ => (hk_.1.1.2) e_))) (fun k_ hk_ => ⟨hk_.1.1.1.1, hk_.1.1.1.2, hk_.1.1.2⟩)); have n6_ := Aside0.mk (blk_kept (by (with_reducible repeat (first | refine blk_drewN ?_ _ | refine blk_drew ?_ | refine blk_alloc ?_ _)); exact BK319.out) hkp (fun hs_ => Or.elim hs_ (fun e_ => (fun e_ => (Kd.R_ne HO_342000.out BK319.out (by decide)) e_) e_) (fun e_ => (fun e_ => (Kd.R_ne HO_342001.out BK319.out (by decide)) e_) e_))); have n7_ := Aside0.mk (blk_kept (by (with_reducible repeat (first | refine blk_drewN ?_ _ | refine blk_drew ?_ | refine blk_alloc ?_ _)); exact BK334.out) hkp (fun hs_ => Or.elim hs_ (fun e_ => (fun e_ => (Kd.R_ne HO_342000.out BK334.out (by decide)) e_) e_) (fun e_ => (fun e_ => (Kd.R_ne HO_342001.out BK334.out (by decide)) e_) e_))); have n8_ := Aside0.mk (blk_kept (by (with_reducible repeat (first | refine blk_drewN ?_ _ | refine blk_drew ?_ | refine blk_alloc ?_ _)); exact BK341.out) hkp (fun hs_ => Or.elim hs_ (fun e_ => (fun e_ => (Kd.R_ne HO_342000.out BK341.out (by decide)) e_) e_) (fun e_ => (fun e_ => (Kd.R_ne HO_342001.out BK341.out (by decide)) e_) e_))); have n9_ := Aside0.mk (blk_kept (by (with_reducible repeat (first | refine blk_drewN ?_ _ | refine blk_drew ?_ | refine blk_alloc ?_ _)); exact BK349.out) hkp (fun hs_ => Or.elim hs_ (fun e_ => (fun e_ => (Kd.R_ne HO_342000.out BK349.out (by decide)) e_) e_) (fun e_ => (fun e_ => (Kd.R_ne HO_342001.out BK349.out (by decide)) e_) e_))); have n10_ := Aside0.mk (Kd.R_mono (ok' := fun k_ => some k_ ≠ (.slice Ao21 t327.length co21 : Value).ownBlock ∧ some k_ ≠ (.slice Ao28 t335.length co28 : Value).ownBlock ∧ some k_ ≠ (.slice Ao35 t342.length co35 : Value).ownBlock) (Kd.R_keptB ((Kd.R_apart' HO353.out (Kd.R_typed HO_342001.out) (by decide))) hkp (fun k_ hk_ hs_ => Or.elim hs_ (fun e_ => (hk_.1.1.2) e_) (fun e_ => (hk_.2) e_))) (fun k_ hk_ => ⟨hk_.1.1.1.1.2, hk_.1.1.1.2, hk_.1.1.2⟩)); have n11_ := Aside0.mk (Kd.R_mono (ok' := fun k_ => some k_ ≠ (.slice Ao24 t330.length co24 : Value).ownBlock ∧ some k_ ≠ (.slice Ao32 t338.length co32 : Value).ownBlock ∧ some k_ ≠ (.slice Ao40 t345.length co40 : Value).ownBlock) (Kd.R_keptB ((Kd.R_apart' HO356.out (Kd.R_typed HO_342000.out) (by decide))) hkp (fun k_ hk_ hs_ => Or.elim hs_ (fun e_ => (hk_.2) e_) (fun e_ => (hk_.1.1.2) e_))) (fun k_ hk_ => ⟨hk_.1.1.1.1.2, hk_.1.1.1.2, hk_.1.1.2⟩)); have n12_ := Aside0.mk (hb); clear HO_335000; clear HO_335001; clear HO_342000; clear HO_342001; clear HO_350000; clear HO_350001; clear BK319; clear BK334; clear BK341; clear BK349; clear HO353; clear HO356; clear HB; have HO_335000 := n0_; have HO_335001 := n1_; have HO_342000 := n2_; have HO_342001 := n3_; have HO_350000 := n4_; have HO_350001 := n5_; have BK319 := n6_; have BK334 := n7_; have BK341 := n8_; have BK349 := n9_; have HO353 := n10_; have HO356 := n11_; have HB := n12_; clear n0_ n1_ n2_ n3_ n4_ n5_ n6_ n7_ n8_ n9_ n10_ n11_ n12_; (try clear hb); (try clear hkp); (try clear hy0); (try clear hy1)))
            (try simp only [Act.put, List.setIfInBounds_toArray, List.set_cons_zero, List.set_cons_succ])
            go_cut [61] (fun v61 wc => ∃ (kq : Nat) (x61_63 : Bool), v61 = .bool x61_63 ∧ Aside0 (laws_FnExactPlainSystem.j1 kq t333 x61_63 l0_0 l0_1 t327 t330 t342 t345 = some true) ∧ Aside0 (kq ≤ kj10) ∧ Aside0 (Kd.R k58 58 wc w.heap.size (fun k_ => some k_ ≠ ((.slice Ao28 t335.length co28) : Value).ownBlock ∧ some k_ ≠ ((.slice Ao35 t342.length co35) : Value).ownBlock) (.slice Ao21 t327.length co21) t327) ∧ Aside0 (Kd.R k59 59 wc w.heap.size (fun k_ => some k_ ≠ ((.slice Ao32 t338.length co32) : Value).ownBlock ∧ some k_ ≠ ((.slice Ao40 t345.length co40) : Value).ownBlock) (.slice Ao24 t330.length co24) t330) ∧ Aside0 (Kd.R k58 58 wc w.heap.size (fun k_ => some k_ ≠ ((.slice Ao21 t327.length co21) : Value).ownBlock ∧ some k_ ≠ ((.slice Ao35 t342.length co35) : Value).ownBlock) (.slice Ao28 t335.length co28) t359) ∧ Aside0 (Kd.R k59 59 wc w.heap.size (fun k_ => some k_ ≠ ((.slice Ao24 t330.length co24) : Value).ownBlock ∧ some k_ ≠ ((.slice Ao40 t345.length co40) : Value).ownBlock) (.slice Ao32 t338.length co32) t360) ∧ Aside0 (Kd.R k58 58 wc w.heap.size (fun k_ => some k_ ≠ ((.slice Ao21 t327.length co21) : Value).ownBlock ∧ some k_ ≠ ((.slice Ao28 t335.length co28) : Value).ownBlock) (.slice Ao35 t342.length co35) t342) ∧ Aside0 (Kd.R k59 59 wc w.heap.size (fun k_ => some k_ ≠ ((.slice Ao24 t330.length co24) : Value).ownBlock ∧ some k_ ≠ ((.slice Ao32 t338.length co32) : Value).ownBlock) (.slice Ao40 t345.length co40) t345) ∧ Aside0 (wc.heap[gb319]? = some (.cells #[(.slice A0_0 l0_0.length c0_0), (.slice A0_1 l0_1.length c0_1)] 32 (0, 0))) ∧ Aside0 (wc.heap[gb334]? = some (.cells #[(.slice Ao21 t327.length co21), (.slice Ao24 t330.length co24)] 25 (0, 0))) ∧ Aside0 (wc.heap[gb341]? = some (.cells #[(.slice Ao28 t335.length co28), (.slice Ao32 t338.length co32)] 25 (0, 0))) ∧ Aside0 (wc.heap[gb349]? = some (.cells #[(.slice Ao35 t342.length co35), (.slice Ao40 t345.length co40)] 25 (0, 0))) ∧ Aside0 (Below w.heap.size w wc))
            case first =>
              have H := HC64.out
              clear HC64
              by_cases c75 : t358 < 0
              · rw [if_pos c75] at H
                have c75b0 : decide (t358 < 0) = true := decide_eq_true c75
                clear c75
                (first | rw [c75b0] | (simp only [i64_w, i32_w]; rw [c75b0]) | skip)
                have H' := Aside0.mk H
                clear H
                go_wp2
                go_meet
                case rel => exact ⟨_, (true), (by first | rfl | (simp; done) | (simp [*]; done)), H', ⟨by have := HJ10.out; first | omega | exact Nat.le_refl _⟩, ⟨by (with_reducible repeat (first | apply Kd.R_alloc | apply Kd.R_drewN | apply Kd.R_drew)); exact Kd.R_mono HO_335000.out (fun _ hk => ⟨hk.1, hk.2.1⟩)⟩, ⟨by (with_reducible repeat (first | apply Kd.R_alloc | apply Kd.R_drewN | apply Kd.R_drew)); exact Kd.R_mono HO_335001.out (fun _ hk => ⟨hk.1, hk.2.1⟩)⟩, ⟨by (with_reducible repeat (first | apply Kd.R_alloc | apply Kd.R_drewN | apply Kd.R_drew)); exact Kd.R_mono HO_342000.out (fun _ hk => ⟨hk.1.1, hk.1.2⟩)⟩, ⟨by (with_reducible repeat (first | apply Kd.R_alloc | apply Kd.R_drewN | apply Kd.R_drew)); exact Kd.R_mono HO_342001.out (fun _ hk => ⟨hk.1.1, hk.1.2⟩)⟩, ⟨by (with_reducible repeat (first | apply Kd.R_alloc | apply Kd.R_drewN | apply Kd.R_drew)); exact Kd.R_mono HO_350000.out (fun _ hk => ⟨hk.1, hk.2.1⟩)⟩, ⟨by (with_reducible repeat (first | apply Kd.R_alloc | apply Kd.R_drewN | apply Kd.R_drew)); exact Kd.R_mono HO_350001.out (fun _ hk => ⟨hk.1, hk.2.1⟩)⟩, ⟨by (with_reducible repeat (first | refine blk_drewN ?_ _ | refine blk_drew ?_ | refine blk_alloc ?_ _)); exact BK319.out⟩, ⟨by (with_reducible repeat (first | refine blk_drewN ?_ _ | refine blk_drew ?_ | refine blk_alloc ?_ _)); exact BK334.out⟩, ⟨by (with_reducible repeat (first | refine blk_drewN ?_ _ | refine blk_drew ?_ | refine blk_alloc ?_ _)); exact BK341.out⟩, ⟨by (with_reducible repeat (first | refine blk_drewN ?_ _ | refine blk_drew ?_ | refine blk_alloc ?_ _)); exact BK349.out⟩, ⟨by repeat (first | (with_reducible first | exact HB.out | apply below_alloc | apply pw_below_drewN | apply below_drew1 | refine below_set ?_ GE319.out | refine below_set ?_ GE334.out | refine below_set ?_ GE341.out | refine below_set ?_ GE349.out) | exact HB.out)⟩⟩
              · rw [if_neg c75] at H
                have c75b0 : decide (t358 < 0) = false := decide_eq_false c75
                clear c75
                (first | rw [c75b0] | (simp only [i64_w, i32_w]; rw [c75b0]) | skip)
                replace H := Option.bind_eq_some_iff.mp H
                obtain ⟨t361, A760, H⟩ := H
                replace H : (if t361 = true then (laws_FnExactPlainSystem.j1 kj10 t333 (t348 != t333) l0_0 l0_1 t327 t330 t342 t345) else (laws_FnExactPlainSystem.j1 kj10 t333 true l0_0 l0_1 t327 t330 t342 t345)) = some true := H
                have A76 := Aside0.mk A760
                clear A760
                by_cases c77 : t361 = true
                · subst c77
                  have H1 : (laws_FnExactPlainSystem.j1 kj10 t333 (t348 != t333) l0_0 l0_1 t327 t330 t342 t345) = some true := by rw [if_pos rfl] at H; exact H
                  clear H
                  have H := H1
                  clear H1
                  have H' := Aside0.mk H
                  clear H
                  have hnb78 := NB349_319.out
                  have hnc78 := NB319_349.out
                  have hnb79 := NB349_334.out
                  have hnc79 := NB334_349.out
                  have hnb80 := NB349_341.out
                  have hnc80 := NB341_349.out
                  have hcz81_0 : w74.cell? ⟨gb349, 0, none⟩ = some (.slice Ao35 t342.length co35) := (blk_cell BK349.out 0).trans rfl
                  have hcz81_1 : w74.cell? ⟨gb349, 1, none⟩ = some (.slice Ao40 t345.length co40) := (blk_cell BK349.out 1).trans rfl
                  have hfz81_0 := blk_frozen BK349.out 0
                  have hfz81_1 := blk_frozen BK349.out 1
                  have hnb82 := NB334_319.out
                  have hnc82 := NB319_334.out
                  have hnb83 := NB334_341.out
                  have hnc83 := NB341_334.out
                  have hcz84_0 : w74.cell? ⟨gb334, 0, none⟩ = some (.slice Ao21 t327.length co21) := (blk_cell BK334.out 0).trans rfl
                  have hcz84_1 : w74.cell? ⟨gb334, 1, none⟩ = some (.slice Ao24 t330.length co24) := (blk_cell BK334.out 1).trans rfl
                  have hfz84_0 := blk_frozen BK334.out 0
                  have hfz84_1 := blk_frozen BK334.out 1
                  go_wp2_with (first | (go_at_call 14; (with_reducible refine (laws_eqSystem.calls kj10 _ _ t342 _ _ t345 _ _ t327 _ _ t330 true _ ?side1 ?side2 ?side3 ?side4 ?side5 ?side6 ?side7 ?side8 A76.out).mono ?_); (case side1 => repeat (first | exact (Kd.R_reads' HO_350000.out).2.2 | (with_reducible refine Kd.C_alloc ?_ _) | (with_reducible refine Kd.C_drewN ?_ _) | (with_reducible refine Kd.C_drew ?_))); (case side2 => exact (Kd.R_reads' HO_350000.out).2.1); (case side3 => repeat (first | exact (Kd.R_reads' HO_350001.out).2.2 | (with_reducible refine Kd.C_alloc ?_ _) | (with_reducible refine Kd.C_drewN ?_ _) | (with_reducible refine Kd.C_drew ?_))); (case side4 => exact (Kd.R_reads' HO_350001.out).2.1); (case side5 => repeat (first | exact (Kd.R_reads' HO_335000.out).2.2 | (with_reducible refine Kd.C_alloc ?_ _) | (with_reducible refine Kd.C_drewN ?_ _) | (with_reducible refine Kd.C_drew ?_))); (case side6 => exact (Kd.R_reads' HO_335000.out).2.1); (case side7 => repeat (first | exact (Kd.R_reads' HO_335001.out).2.2 | (with_reducible refine Kd.C_alloc ?_ _) | (with_reducible refine Kd.C_drewN ?_ _) | (with_reducible refine Kd.C_drew ?_))); (case side8 => exact (Kd.R_reads' HO_335001.out).2.1); rintro e w85 ⟨rfl, hb⟩; have n0_ := Aside0.mk (Kd.R_below (by (with_reducible repeat (first | apply Kd.R_alloc | apply Kd.R_drewN | apply Kd.R_drew)); exact HO_335000.out) hb); have n1_ := Aside0.mk (Kd.R_below (by (with_reducible repeat (first | apply Kd.R_alloc | apply Kd.R_drewN | apply Kd.R_drew)); exact HO_335001.out) hb); have n2_ := Aside0.mk (Kd.R_below (by (with_reducible repeat (first | apply Kd.R_alloc | apply Kd.R_drewN | apply Kd.R_drew)); exact HO_342000.out) hb); have n3_ := Aside0.mk (Kd.R_below (by (with_reducible repeat (first | apply Kd.R_alloc | apply Kd.R_drewN | apply Kd.R_drew)); exact HO_342001.out) hb); have n4_ := Aside0.mk (Kd.R_below (by (with_reducible repeat (first | apply Kd.R_alloc | apply Kd.R_drewN | apply Kd.R_drew)); exact HO_350000.out) hb); have n5_ := Aside0.mk (Kd.R_below (by (with_reducible repeat (first | apply Kd.R_alloc | apply Kd.R_drewN | apply Kd.R_drew)); exact HO_350001.out) hb); have n6_ := Aside0.mk (Kd.R_below (by (with_reducible repeat (first | apply Kd.R_alloc | apply Kd.R_drewN | apply Kd.R_drew)); exact HO353.out) hb); have n7_ := Aside0.mk (Kd.R_below (by (with_reducible repeat (first | apply Kd.R_alloc | apply Kd.R_drewN | apply Kd.R_drew)); exact HO356.out) hb); have n8_ := Aside0.mk (blk_below (g := gb319) (o := .cells #[.slice A0_0 l0_0.length c0_0, .slice A0_1 l0_1.length c0_1] 32 (0, 0)) (by (with_reducible repeat (first | refine blk_drewN ?_ _ | refine blk_drew ?_ | refine blk_alloc ?_ _)); exact BK319.out) hb); have n9_ := Aside0.mk (blk_below (g := gb334) (o := .cells #[.slice Ao21 t327.length co21, .slice Ao24 t330.length co24] 25 (0, 0)) (by (with_reducible repeat (first | refine blk_drewN ?_ _ | refine blk_drew ?_ | refine blk_alloc ?_ _)); exact BK334.out) hb); have n10_ := Aside0.mk (blk_below (g := gb341) (o := .cells #[.slice Ao28 t335.length co28, .slice Ao32 t338.length co32] 25 (0, 0)) (by (with_reducible repeat (first | refine blk_drewN ?_ _ | refine blk_drew ?_ | refine blk_alloc ?_ _)); exact BK341.out) hb); have n11_ := Aside0.mk (blk_below (g := gb349) (o := .cells #[.slice Ao35 t342.length co35, .slice Ao40 t345.length co40] 25 (0, 0)) (by (with_reducible repeat (first | refine blk_drewN ?_ _ | refine blk_drew ?_ | refine blk_alloc ?_ _)); exact BK349.out) hb); have n12_ := Aside0.mk (below_step (by repeat (first | (with_reducible first | exact HB.out | apply below_alloc | apply pw_below_drewN | apply below_drew1 | refine below_set ?_ GE319.out | refine below_set ?_ GE334.out | refine below_set ?_ GE341.out | refine below_set ?_ GE349.out) | exact HB.out)) hb); clear HO_335000; clear HO_335001; clear HO_342000; clear HO_342001; clear HO_350000; clear HO_350001; clear HO353; clear HO356; clear BK319; clear BK334; clear BK341; clear BK349; clear HB; have HO_335000 := n0_; have HO_335001 := n1_; have HO_342000 := n2_; have HO_342001 := n3_; have HO_350000 := n4_; have HO_350001 := n5_; have HO353 := n6_; have HO356 := n7_; have BK319 := n8_; have BK334 := n9_; have BK341 := n10_; have BK349 := n11_; have HB := n12_; clear n0_ n1_ n2_ n3_ n4_ n5_ n6_ n7_ n8_ n9_ n10_ n11_ n12_; (try clear hb); (try clear hb2); (try clear hk); (try clear hi)))
                  go_meet
                  case rel => exact ⟨_, ((t348 != t333)), (by first | rfl | (simp; done) | (simp [*]; done)), H', ⟨by have := HJ10.out; first | omega | exact Nat.le_refl _⟩, ⟨by (with_reducible repeat (first | apply Kd.R_alloc | apply Kd.R_drewN | apply Kd.R_drew)); exact Kd.R_mono HO_335000.out (fun _ hk => ⟨hk.1, hk.2.1⟩)⟩, ⟨by (with_reducible repeat (first | apply Kd.R_alloc | apply Kd.R_drewN | apply Kd.R_drew)); exact Kd.R_mono HO_335001.out (fun _ hk => ⟨hk.1, hk.2.1⟩)⟩, ⟨by (with_reducible repeat (first | apply Kd.R_alloc | apply Kd.R_drewN | apply Kd.R_drew)); exact Kd.R_mono HO_342000.out (fun _ hk => ⟨hk.1.1, hk.1.2⟩)⟩, ⟨by (with_reducible repeat (first | apply Kd.R_alloc | apply Kd.R_drewN | apply Kd.R_drew)); exact Kd.R_mono HO_342001.out (fun _ hk => ⟨hk.1.1, hk.1.2⟩)⟩, ⟨by (with_reducible repeat (first | apply Kd.R_alloc | apply Kd.R_drewN | apply Kd.R_drew)); exact Kd.R_mono HO_350000.out (fun _ hk => ⟨hk.1, hk.2.1⟩)⟩, ⟨by (with_reducible repeat (first | apply Kd.R_alloc | apply Kd.R_drewN | apply Kd.R_drew)); exact Kd.R_mono HO_350001.out (fun _ hk => ⟨hk.1, hk.2.1⟩)⟩, ⟨by (with_reducible repeat (first | refine blk_drewN ?_ _ | refine blk_drew ?_ | refine blk_alloc ?_ _)); exact BK319.out⟩, ⟨by (with_reducible repeat (first | refine blk_drewN ?_ _ | refine blk_drew ?_ | refine blk_alloc ?_ _)); exact BK334.out⟩, ⟨by (with_reducible repeat (first | refine blk_drewN ?_ _ | refine blk_drew ?_ | refine blk_alloc ?_ _)); exact BK341.out⟩, ⟨by (with_reducible repeat (first | refine blk_drewN ?_ _ | refine blk_drew ?_ | refine blk_alloc ?_ _)); exact BK349.out⟩, ⟨by repeat (first | (with_reducible first | exact HB.out | apply below_alloc | apply pw_below_drewN | apply below_drew1 | refine below_set ?_ GE319.out | refine below_set ?_ GE334.out | refine below_set ?_ GE341.out | refine below_set ?_ GE349.out) | exact HB.out)⟩⟩
                · replace c77 := Bool.eq_false_iff.mpr c77
                  subst c77
                  have H1 : (laws_FnExactPlainSystem.j1 kj10 t333 true l0_0 l0_1 t327 t330 t342 t345) = some true := by rw [if_neg (show ¬ (false = true) by decide)] at H; exact H
                  clear H
                  have H := H1
                  clear H1
                  have H' := Aside0.mk H
                  clear H
                  have hnb86 := NB349_319.out
                  have hnc86 := NB319_349.out
                  have hnb87 := NB349_334.out
                  have hnc87 := NB334_349.out
                  have hnb88 := NB349_341.out
                  have hnc88 := NB341_349.out
                  have hcz89_0 : w74.cell? ⟨gb349, 0, none⟩ = some (.slice Ao35 t342.length co35) := (blk_cell BK349.out 0).trans rfl
                  have hcz89_1 : w74.cell? ⟨gb349, 1, none⟩ = some (.slice Ao40 t345.length co40) := (blk_cell BK349.out 1).trans rfl
                  have hfz89_0 := blk_frozen BK349.out 0
                  have hfz89_1 := blk_frozen BK349.out 1
                  have hnb90 := NB334_319.out
                  have hnc90 := NB319_334.out
                  have hnb91 := NB334_341.out
                  have hnc91 := NB341_334.out
                  have hcz92_0 : w74.cell? ⟨gb334, 0, none⟩ = some (.slice Ao21 t327.length co21) := (blk_cell BK334.out 0).trans rfl
                  have hcz92_1 : w74.cell? ⟨gb334, 1, none⟩ = some (.slice Ao24 t330.length co24) := (blk_cell BK334.out 1).trans rfl
                  have hfz92_0 := blk_frozen BK334.out 0
                  have hfz92_1 := blk_frozen BK334.out 1
                  go_wp2_with (first | (go_at_call 14; (with_reducible refine (laws_eqSystem.calls kj10 _ _ t342 _ _ t345 _ _ t327 _ _ t330 false _ ?side1 ?side2 ?side3 ?side4 ?side5 ?side6 ?side7 ?side8 A76.out).mono ?_); (case side1 => repeat (first | exact (Kd.R_reads' HO_350000.out).2.2 | (with_reducible refine Kd.C_alloc ?_ _) | (with_reducible refine Kd.C_drewN ?_ _) | (with_reducible refine Kd.C_drew ?_))); (case side2 => exact (Kd.R_reads' HO_350000.out).2.1); (case side3 => repeat (first | exact (Kd.R_reads' HO_350001.out).2.2 | (with_reducible refine Kd.C_alloc ?_ _) | (with_reducible refine Kd.C_drewN ?_ _) | (with_reducible refine Kd.C_drew ?_))); (case side4 => exact (Kd.R_reads' HO_350001.out).2.1); (case side5 => repeat (first | exact (Kd.R_reads' HO_335000.out).2.2 | (with_reducible refine Kd.C_alloc ?_ _) | (with_reducible refine Kd.C_drewN ?_ _) | (with_reducible refine Kd.C_drew ?_))); (case side6 => exact (Kd.R_reads' HO_335000.out).2.1); (case side7 => repeat (first | exact (Kd.R_reads' HO_335001.out).2.2 | (with_reducible refine Kd.C_alloc ?_ _) | (with_reducible refine Kd.C_drewN ?_ _) | (with_reducible refine Kd.C_drew ?_))); (case side8 => exact (Kd.R_reads' HO_335001.out).2.1); rintro e w93 ⟨rfl, hb⟩; have n0_ := Aside0.mk (Kd.R_below (by (with_reducible repeat (first | apply Kd.R_alloc | apply Kd.R_drewN | apply Kd.R_drew)); exact HO_335000.out) hb); have n1_ := Aside0.mk (Kd.R_below (by (with_reducible repeat (first | apply Kd.R_alloc | apply Kd.R_drewN | apply Kd.R_drew)); exact HO_335001.out) hb); have n2_ := Aside0.mk (Kd.R_below (by (with_reducible repeat (first | apply Kd.R_alloc | apply Kd.R_drewN | apply Kd.R_drew)); exact HO_342000.out) hb); have n3_ := Aside0.mk (Kd.R_below (by (with_reducible repeat (first | apply Kd.R_alloc | apply Kd.R_drewN | apply Kd.R_drew)); exact HO_342001.out) hb); have n4_ := Aside0.mk (Kd.R_below (by (with_reducible repeat (first | apply Kd.R_alloc | apply Kd.R_drewN | apply Kd.R_drew)); exact HO_350000.out) hb); have n5_ := Aside0.mk (Kd.R_below (by (with_reducible repeat (first | apply Kd.R_alloc | apply Kd.R_drewN | apply Kd.R_drew)); exact HO_350001.out) hb); have n6_ := Aside0.mk (Kd.R_below (by (with_reducible repeat (first | apply Kd.R_alloc | apply Kd.R_drewN | apply Kd.R_drew)); exact HO353.out) hb); have n7_ := Aside0.mk (Kd.R_below (by (with_reducible repeat (first | apply Kd.R_alloc | apply Kd.R_drewN | apply Kd.R_drew)); exact HO356.out) hb); have n8_ := Aside0.mk (blk_below (g := gb319) (o := .cells #[.slice A0_0 l0_0.length c0_0, .slice A0_1 l0_1.length c0_1] 32 (0, 0)) (by (with_reducible repeat (first | refine blk_drewN ?_ _ | refine blk_drew ?_ | refine blk_alloc ?_ _)); exact BK319.out) hb); have n9_ := Aside0.mk (blk_below (g := gb334) (o := .cells #[.slice Ao21 t327.length co21, .slice Ao24 t330.length co24] 25 (0, 0)) (by (with_reducible repeat (first | refine blk_drewN ?_ _ | refine blk_drew ?_ | refine blk_alloc ?_ _)); exact BK334.out) hb); have n10_ := Aside0.mk (blk_below (g := gb341) (o := .cells #[.slice Ao28 t335.length co28, .slice Ao32 t338.length co32] 25 (0, 0)) (by (with_reducible repeat (first | refine blk_drewN ?_ _ | refine blk_drew ?_ | refine blk_alloc ?_ _)); exact BK341.out) hb); have n11_ := Aside0.mk (blk_below (g := gb349) (o := .cells #[.slice Ao35 t342.length co35, .slice Ao40 t345.length co40] 25 (0, 0)) (by (with_reducible repeat (first | refine blk_drewN ?_ _ | refine blk_drew ?_ | refine blk_alloc ?_ _)); exact BK349.out) hb); have n12_ := Aside0.mk (below_step (by repeat (first | (with_reducible first | exact HB.out | apply below_alloc | apply pw_below_drewN | apply below_drew1 | refine below_set ?_ GE319.out | refine below_set ?_ GE334.out | refine below_set ?_ GE341.out | refine below_set ?_ GE349.out) | exact HB.out)) hb); clear HO_335000; clear HO_335001; clear HO_342000; clear HO_342001; clear HO_350000; clear HO_350001; clear HO353; clear HO356; clear BK319; clear BK334; clear BK341; clear BK349; clear HB; have HO_335000 := n0_; have HO_335001 := n1_; have HO_342000 := n2_; have HO_342001 := n3_; have HO_350000 := n4_; have HO_350001 := n5_; have HO353 := n6_; have HO356 := n7_; have BK319 := n8_; have BK334 := n9_; have BK341 := n10_; have BK349 := n11_; have HB := n12_; clear n0_ n1_ n2_ n3_ n4_ n5_ n6_ n7_ n8_ n9_ n10_ n11_ n12_; (try clear hb); (try clear hb2); (try clear hk); (try clear hi)))
                  go_meet
                  case rel => exact ⟨_, (true), (by first | rfl | (simp; done) | (simp [*]; done)), H', ⟨by have := HJ10.out; first | omega | exact Nat.le_refl _⟩, ⟨by (with_reducible repeat (first | apply Kd.R_alloc | apply Kd.R_drewN | apply Kd.R_drew)); exact Kd.R_mono HO_335000.out (fun _ hk => ⟨hk.1, hk.2.1⟩)⟩, ⟨by (with_reducible repeat (first | apply Kd.R_alloc | apply Kd.R_drewN | apply Kd.R_drew)); exact Kd.R_mono HO_335001.out (fun _ hk => ⟨hk.1, hk.2.1⟩)⟩, ⟨by (with_reducible repeat (first | apply Kd.R_alloc | apply Kd.R_drewN | apply Kd.R_drew)); exact Kd.R_mono HO_342000.out (fun _ hk => ⟨hk.1.1, hk.1.2⟩)⟩, ⟨by (with_reducible repeat (first | apply Kd.R_alloc | apply Kd.R_drewN | apply Kd.R_drew)); exact Kd.R_mono HO_342001.out (fun _ hk => ⟨hk.1.1, hk.1.2⟩)⟩, ⟨by (with_reducible repeat (first | apply Kd.R_alloc | apply Kd.R_drewN | apply Kd.R_drew)); exact Kd.R_mono HO_350000.out (fun _ hk => ⟨hk.1, hk.2.1⟩)⟩, ⟨by (with_reducible repeat (first | apply Kd.R_alloc | apply Kd.R_drewN | apply Kd.R_drew)); exact Kd.R_mono HO_350001.out (fun _ hk => ⟨hk.1, hk.2.1⟩)⟩, ⟨by (with_reducible repeat (first | refine blk_drewN ?_ _ | refine blk_drew ?_ | refine blk_alloc ?_ _)); exact BK319.out⟩, ⟨by (with_reducible repeat (first | refine blk_drewN ?_ _ | refine blk_drew ?_ | refine blk_alloc ?_ _)); exact BK334.out⟩, ⟨by (with_reducible repeat (first | refine blk_drewN ?_ _ | refine blk_drew ?_ | refine blk_alloc ?_ _)); exact BK341.out⟩, ⟨by (with_reducible repeat (first | refine blk_drewN ?_ _ | refine blk_drew ?_ | refine blk_alloc ?_ _)); exact BK349.out⟩, ⟨by repeat (first | (with_reducible first | exact HB.out | apply below_alloc | apply pw_below_drewN | apply below_drew1 | refine below_set ?_ GE319.out | refine below_set ?_ GE334.out | refine below_set ?_ GE341.out | refine below_set ?_ GE349.out) | exact HB.out)⟩⟩
            case rest =>
              clear HC64
              try clear c1
              try clear c2
              try clear p2
              try clear c3
              try clear c3b0
              try clear c4
              try clear c5
              try clear c6
              try clear c7
              try clear c8
              try clear c9
              try clear c14
              try clear c15
              try clear c17
              try clear c19
              try clear c22
              try clear c23
              try clear c24
              try clear c29
              try clear c30
              try clear c36
              try clear c37
              try clear c38
              try clear c42
              try clear c43
              try clear c44
              try clear c45
              try clear c47
              try clear c48
              try clear c51
              try clear c52
              try clear c53
              try clear c55
              try clear c56
              try clear c59
              try clear c62
              try clear c70
              try clear c71
              try clear c72
              try clear c75
              try clear c75b0
              try clear c77
              try clear c78
              try clear c79
              try clear c80
              try clear c82
              try clear c83
              try clear c86
              try clear c87
              try clear c88
              try clear c90
              try clear c91
              try clear hcz13_0
              try clear hcz13_1
              try clear hcz15_0
              try clear hcz15_1
              try clear hcz23_0
              try clear hcz23_1
              try clear hcz25_0
              try clear hcz25_1
              try clear hcz31_0
              try clear hcz31_1
              try clear hcz39_0
              try clear hcz39_1
              try clear hcz46_0
              try clear hcz46_1
              try clear hcz49_0
              try clear hcz49_1
              try clear hcz54_0
              try clear hcz54_1
              try clear hcz57_0
              try clear hcz57_1
              try clear hcz5_0
              try clear hcz5_1
              try clear hcz73_0
              try clear hcz73_1
              try clear hcz81_0
              try clear hcz81_1
              try clear hcz84_0
              try clear hcz84_1
              try clear hcz89_0
              try clear hcz89_1
              try clear hcz92_0
              try clear hcz92_1
              try clear hfz13_0
              try clear hfz13_1
              try clear hfz15_0
              try clear hfz15_1
              try clear hfz23_0
              try clear hfz23_1
              try clear hfz25_0
              try clear hfz25_1
              try clear hfz31_0
              try clear hfz31_1
              try clear hfz39_0
              try clear hfz39_1
              try clear hfz46_0
              try clear hfz46_1
              try clear hfz49_0
              try clear hfz49_1
              try clear hfz54_0
              try clear hfz54_1
              try clear hfz57_0
              try clear hfz57_1
              try clear hfz5_0
              try clear hfz5_1
              try clear hfz73_0
              try clear hfz73_1
              try clear hfz81_0
              try clear hfz81_1
              try clear hfz84_0
              try clear hfz84_1
              try clear hfz89_0
              try clear hfz89_1
              try clear hfz92_0
              try clear hfz92_1
              try clear p2
              obtain ⟨kq, x61_63, rfl, HA, HJ63, HO_335000, HO_335001, HO_342000, HO_342001, HO_350000, HO_350001, BK319, BK334, BK341, BK349, HB⟩ := hcut
              have hl342000_63 := (Kd.R_reads' HO_342000.out).1
              rw [hl342000_63] at HO_342000
              (try simp only [hl342000_63])
              (try simp only [hl342000_63] at BK319)
              (try simp only [hl342000_63] at BK334)
              (try simp only [hl342000_63] at BK341)
              (try simp only [hl342000_63] at BK349)
              (try simp only [hl342000_63] at HO_335000)
              (try simp only [hl342000_63] at HO_335001)
              (try simp only [hl342000_63] at HO_342001)
              (try simp only [hl342000_63] at HO_350000)
              (try simp only [hl342000_63] at HO_350001)
              have hl342001_63 := (Kd.R_reads' HO_342001.out).1
              rw [hl342001_63] at HO_342001
              (try simp only [hl342001_63])
              (try simp only [hl342001_63] at BK319)
              (try simp only [hl342001_63] at BK334)
              (try simp only [hl342001_63] at BK341)
              (try simp only [hl342001_63] at BK349)
              (try simp only [hl342001_63] at HO_335000)
              (try simp only [hl342001_63] at HO_335001)
              (try simp only [hl342001_63] at HO_342000)
              (try simp only [hl342001_63] at HO_350000)
              (try simp only [hl342001_63] at HO_350001)
              cases kq with
              | zero => exact absurd HA.out (by simp [laws_FnExactPlainSystem.j1])
              | succ kj63 =>
                have H := HA.out
                clear HA
                simp only [laws_FnExactPlainSystem.j1] at H
                by_cases c94 : x61_63 = true
                · subst c94
                  have H1 : (some false) = some true := by rw [if_pos rfl] at H; exact H
                  clear H
                  have H := H1
                  clear H1
                  exact absurd H (by simp)
                · replace c94 := Bool.eq_false_iff.mpr c94
                  subst c94
                  have H1 : ((laws_markSystem.f kj63 t342 t345 1).bind fun bt362 => ((laws_heldSystem.f kj63 bt362.2.1 bt362.2.2 1).bind fun t365 => (if t365 < 0 then (some false) else (if t365 = bt362.1 then ((laws_toSystem.f kj63 l0_0 l0_1).bind fun bt366 => ((impl_PlainSystem.f bt366.1 bt366.2).bind fun bt372 => ((laws_eqSystem.f kj63 bt372.1 bt372.2.1 t327 t330).bind fun t380 => (if t380 = true then (laws_FnExactPlainSystem.j2 kj63 bt362.1 (bt372.2.2 != t333) bt362.2.1 bt362.2.2) else (laws_FnExactPlainSystem.j2 kj63 bt362.1 true bt362.2.1 bt362.2.2))))) else (some false))))) = some true := by rw [if_neg (show ¬ (false = true) by decide)] at H; exact H
                  clear H
                  have H := H1
                  clear H1
                  replace H := Option.bind_eq_some_iff.mp H
                  obtain ⟨⟨t362, t363, t364⟩, A950, H⟩ := H
                  replace H : ((laws_heldSystem.f kj63 t363 t364 1).bind fun t365 => (if t365 < 0 then (some false) else (if t365 = t362 then ((laws_toSystem.f kj63 l0_0 l0_1).bind fun bt366 => ((impl_PlainSystem.f bt366.1 bt366.2).bind fun bt372 => ((laws_eqSystem.f kj63 bt372.1 bt372.2.1 t327 t330).bind fun t380 => (if t380 = true then (laws_FnExactPlainSystem.j2 kj63 t362 (bt372.2.2 != t333) t363 t364) else (laws_FnExactPlainSystem.j2 kj63 t362 true t363 t364))))) else (some false)))) = some true := H
                  have A95 := Aside0.mk A950
                  clear A950
                  replace H := Option.bind_eq_some_iff.mp H
                  obtain ⟨t365, A960, H⟩ := H
                  replace H : (if t365 < 0 then (some false) else (if t365 = t362 then ((laws_toSystem.f kj63 l0_0 l0_1).bind fun bt366 => ((impl_PlainSystem.f bt366.1 bt366.2).bind fun bt372 => ((laws_eqSystem.f kj63 bt372.1 bt372.2.1 t327 t330).bind fun t380 => (if t380 = true then (laws_FnExactPlainSystem.j2 kj63 t362 (bt372.2.2 != t333) t363 t364) else (laws_FnExactPlainSystem.j2 kj63 t362 true t363 t364))))) else (some false))) = some true := H
                  have A96 := Aside0.mk A960
                  clear A960
                  by_cases c97 : t365 < 0
                  · rw [if_pos c97] at H
                    have c97b0 : decide (t365 < 0) = true := decide_eq_true c97
                    clear c97
                    exact absurd H (by simp)
                  · rw [if_neg c97] at H
                    have c97b0 : decide (t365 < 0) = false := decide_eq_false c97
                    clear c97
                    by_cases c105 : t365 = t362
                    · rw [if_pos c105] at H
                      have c105b0 : (t365 == t362) = true := beq_iff_eq.mpr c105
                      have c105b1 : (t365 != t362) = false := bne_eq_false_iff_eq.mpr c105
                      clear c105
                      replace H := Option.bind_eq_some_iff.mp H
                      obtain ⟨⟨t366, t369⟩, A1060, H⟩ := H
                      replace H : ((impl_PlainSystem.f t366 t369).bind fun bt372 => ((laws_eqSystem.f kj63 bt372.1 bt372.2.1 t327 t330).bind fun t380 => (if t380 = true then (laws_FnExactPlainSystem.j2 kj63 t362 (bt372.2.2 != t333) t363 t364) else (laws_FnExactPlainSystem.j2 kj63 t362 true t363 t364)))) = some true := H
                      have A106 := Aside0.mk A1060
                      clear A1060
                      replace H := Option.bind_eq_some_iff.mp H
                      obtain ⟨⟨t372, t375, t378⟩, A1070, H⟩ := H
                      replace H : ((laws_eqSystem.f kj63 t372 t375 t327 t330).bind fun t380 => (if t380 = true then (laws_FnExactPlainSystem.j2 kj63 t362 (t378 != t333) t363 t364) else (laws_FnExactPlainSystem.j2 kj63 t362 true t363 t364))) = some true := H
                      have A107 := Aside0.mk A1070
                      clear A1070
                      have HC108 := Aside0.mk H
                      clear H
                      have hnb109 := NB349_319.out
                      have hnc109 := NB319_349.out
                      have hnb110 := NB349_334.out
                      have hnc110 := NB334_349.out
                      have hnb111 := NB349_341.out
                      have hnc111 := NB341_349.out
                      have hcz112_0 : wc.cell? ⟨gb349, 0, none⟩ = some (.slice Ao35 t342.length co35) := (blk_cell BK349.out 0).trans rfl
                      have hcz112_1 : wc.cell? ⟨gb349, 1, none⟩ = some (.slice Ao40 t345.length co40) := (blk_cell BK349.out 1).trans rfl
                      have hfz112_0 := blk_frozen BK349.out 0
                      have hfz112_1 := blk_frozen BK349.out 1
                      go_upto_region 25 with (first | ((with_reducible refine gate_callee (f := 15) rfl ?_); refine goesL_ (some 64) rfl rfl Try.func15 (by kernel_rfl) rfl #[.agg #[.slice Ao35 t342.length co35, .slice Ao40 t345.length co40], .int .i64 1] rfl (by (try simp only [List.map_toArray, List.map_cons, List.map_nil]); first | done | rfl | (simp only [List.length_drop, List.length_take]; rfl)) ?_; (with_reducible refine (laws_markSystem.calls kj63 (fun k_ => some k_ = (.slice Ao35 t342.length co35 : Value).ownBlock) (.slice Ao35 t342.length co35) t342 (fun k_ => some k_ = (.slice Ao40 t345.length co40 : Value).ownBlock) (.slice Ao40 t345.length co40) t345 1 t362 t363 t364 w _ ?side1 ?side2 ?side3 A95.out).mono ?_); (case side1 => repeat (first | (with_reducible first | exact HB.out | apply below_alloc | apply pw_below_drewN | apply below_drew1 | refine below_set ?_ GE319.out | refine below_set ?_ GE334.out | refine below_set ?_ GE341.out | refine below_set ?_ GE349.out) | exact HB.out)); (case side2 => exact Kd.R_tight rfl HO_350000.out); (case side3 => exact Kd.R_tight rfl HO_350001.out); rintro e w113 ⟨rfl, hy0, hy1, hb, hkp⟩; refine ⟨_, rfl, ?_⟩; have n0_ := Aside0.mk (Kd.R_mono (ok' := fun k_ => some k_ ≠ (.slice Ao28 t359.length co28 : Value).ownBlock ∧ some k_ ≠ (.slice Ao35 t342.length co35 : Value).ownBlock) (Kd.R_keptB ((Kd.R_apart' HO_335000.out (Kd.R_typed HO_350001.out) (by decide))) hkp (fun k_ hk_ hs_ => Or.elim hs_ (fun e_ => (hk_.1.2) e_) (fun e_ => (hk_.2) e_))) (fun k_ hk_ => ⟨hk_.1.1.1, hk_.1.1.2⟩)); have n1_ := Aside0.mk (Kd.R_mono (ok' := fun k_ => some k_ ≠ (.slice Ao32 t360.length co32 : Value).ownBlock ∧ some k_ ≠ (.slice Ao40 t345.length co40 : Value).ownBlock) (Kd.R_keptB ((Kd.R_apart' HO_335001.out (Kd.R_typed HO_350000.out) (by decide))) hkp (fun k_ hk_ hs_ => Or.elim hs_ (fun e_ => (hk_.2) e_) (fun e_ => (hk_.1.2) e_))) (fun k_ hk_ => ⟨hk_.1.1.1, hk_.1.1.2⟩)); have n2_ := Aside0.mk (Kd.R_mono (ok' := fun k_ => some k_ ≠ (.slice Ao21 t327.length co21 : Value).ownBlock ∧ some k_ ≠ (.slice Ao35 t342.length co35 : Value).ownBlock) (Kd.R_keptB ((Kd.R_apart' HO_342000.out (Kd.R_typed HO_350001.out) (by decide))) hkp (fun k_ hk_ hs_ => Or.elim hs_ (fun e_ => (hk_.1.2) e_) (fun e_ => (hk_.2) e_))) (fun k_ hk_ => ⟨hk_.1.1.1, hk_.1.1.2⟩)); have n3_ := Aside0.mk (Kd.R_mono (ok' := fun k_ => some k_ ≠ (.slice Ao24 t330.length co24 : Value).ownBlock ∧ some k_ ≠ (.slice Ao40 t345.length co40 : Value).ownBlock) (Kd.R_keptB ((Kd.R_apart' HO_342001.out (Kd.R_typed HO_350000.out) (by decide))) hkp (fun k_ hk_ hs_ => Or.elim hs_ (fun e_ => (hk_.2) e_) (fun e_ => (hk_.1.2) e_))) (fun k_ hk_ => ⟨hk_.1.1.1, hk_.1.1.2⟩)); have n4_ := Aside0.mk (Kd.R_reok rfl hy0 (fun k_ e_ => HO_350000.out.1 k_ e_)); have n5_ := Aside0.mk (Kd.R_reok rfl hy1 (fun k_ e_ => HO_350001.out.1 k_ e_)); have n6_ := Aside0.mk (blk_kept (by (with_reducible repeat (first | refine blk_drewN ?_ _ | refine blk_drew ?_ | refine blk_alloc ?_ _)); exact BK319.out) hkp (fun hs_ => Or.elim hs_ (fun e_ => (fun e_ => (Kd.R_ne HO_350000.out BK319.out (by decide)) e_) e_) (fun e_ => (fun e_ => (Kd.R_ne HO_350001.out BK319.out (by decide)) e_) e_))); have n7_ := Aside0.mk (blk_kept (by (with_reducible repeat (first | refine blk_drewN ?_ _ | refine blk_drew ?_ | refine blk_alloc ?_ _)); exact BK334.out) hkp (fun hs_ => Or.elim hs_ (fun e_ => (fun e_ => (Kd.R_ne HO_350000.out BK334.out (by decide)) e_) e_) (fun e_ => (fun e_ => (Kd.R_ne HO_350001.out BK334.out (by decide)) e_) e_))); have n8_ := Aside0.mk (blk_kept (by (with_reducible repeat (first | refine blk_drewN ?_ _ | refine blk_drew ?_ | refine blk_alloc ?_ _)); exact BK341.out) hkp (fun hs_ => Or.elim hs_ (fun e_ => (fun e_ => (Kd.R_ne HO_350000.out BK341.out (by decide)) e_) e_) (fun e_ => (fun e_ => (Kd.R_ne HO_350001.out BK341.out (by decide)) e_) e_))); have n9_ := Aside0.mk (blk_kept (by (with_reducible repeat (first | refine blk_drewN ?_ _ | refine blk_drew ?_ | refine blk_alloc ?_ _)); exact BK349.out) hkp (fun hs_ => Or.elim hs_ (fun e_ => (fun e_ => (Kd.R_ne HO_350000.out BK349.out (by decide)) e_) e_) (fun e_ => (fun e_ => (Kd.R_ne HO_350001.out BK349.out (by decide)) e_) e_))); have n10_ := Aside0.mk (hb); clear HO_335000; clear HO_335001; clear HO_342000; clear HO_342001; clear HO_350000; clear HO_350001; clear BK319; clear BK334; clear BK341; clear BK349; clear HB; have HO_335000 := n0_; have HO_335001 := n1_; have HO_342000 := n2_; have HO_342001 := n3_; have HO_350000 := n4_; have HO_350001 := n5_; have BK319 := n6_; have BK334 := n7_; have BK341 := n8_; have BK349 := n9_; have HB := n10_; clear n0_ n1_ n2_ n3_ n4_ n5_ n6_ n7_ n8_ n9_ n10_; (try clear hb); (try clear hkp); (try clear hy0); (try clear hy1); have hcz114_0 : w113.cell? ⟨gb349, 0, none⟩ = some (.slice Ao35 t342.length co35) := (blk_cell BK349.out 0).trans rfl; have hcz114_1 : w113.cell? ⟨gb349, 1, none⟩ = some (.slice Ao40 t345.length co40) := (blk_cell BK349.out 1).trans rfl; have hfz114_0 := blk_frozen BK349.out 0; have hfz114_1 := blk_frozen BK349.out 1) | ((with_reducible refine gate_callee (f := 16) rfl ?_); refine goesL_ (some 67) rfl rfl Try.func16 (by kernel_rfl) rfl #[.agg #[.slice Ao35 t363.length co35, .slice Ao40 t364.length co40], .int .i64 1] rfl (by (try simp only [List.map_toArray, List.map_cons, List.map_nil]); first | done | (rw [show t363.length = t342.length from (Kd.R_reads' HO_350000.out).1.symm, show t364.length = t345.length from (Kd.R_reads' HO_350001.out).1.symm] <;> rfl) | rfl | (simp only [List.length_drop, List.length_take]; rfl)) ?_; (with_reducible refine (laws_heldSystem.calls kj63 _ _ t363 _ _ t364 1 t365 _ ?side1 ?side2 ?side3 ?side4 A96.out).mono ?_); (case side1 => repeat (first | exact (Kd.R_reads' HO_350000.out).2.2 | (with_reducible refine Kd.C_alloc ?_ _) | (with_reducible refine Kd.C_drewN ?_ _) | (with_reducible refine Kd.C_drew ?_))); (case side2 => rw [show t363.length = t342.length from (Kd.R_reads' HO_350000.out).1.symm]; exact (Kd.R_reads' HO_350000.out).2.1); (case side3 => repeat (first | exact (Kd.R_reads' HO_350001.out).2.2 | (with_reducible refine Kd.C_alloc ?_ _) | (with_reducible refine Kd.C_drewN ?_ _) | (with_reducible refine Kd.C_drew ?_))); (case side4 => rw [show t364.length = t345.length from (Kd.R_reads' HO_350001.out).1.symm]; exact (Kd.R_reads' HO_350001.out).2.1); rintro e w115 ⟨rfl, hb⟩; refine ⟨_, rfl, ?_⟩; have n0_ := Aside0.mk (Kd.R_below (by (with_reducible repeat (first | apply Kd.R_alloc | apply Kd.R_drewN | apply Kd.R_drew)); exact HO_335000.out) hb); have n1_ := Aside0.mk (Kd.R_below (by (with_reducible repeat (first | apply Kd.R_alloc | apply Kd.R_drewN | apply Kd.R_drew)); exact HO_335001.out) hb); have n2_ := Aside0.mk (Kd.R_below (by (with_reducible repeat (first | apply Kd.R_alloc | apply Kd.R_drewN | apply Kd.R_drew)); exact HO_342000.out) hb); have n3_ := Aside0.mk (Kd.R_below (by (with_reducible repeat (first | apply Kd.R_alloc | apply Kd.R_drewN | apply Kd.R_drew)); exact HO_342001.out) hb); have n4_ := Aside0.mk (Kd.R_below (by (with_reducible repeat (first | apply Kd.R_alloc | apply Kd.R_drewN | apply Kd.R_drew)); exact HO_350000.out) hb); have n5_ := Aside0.mk (Kd.R_below (by (with_reducible repeat (first | apply Kd.R_alloc | apply Kd.R_drewN | apply Kd.R_drew)); exact HO_350001.out) hb); have n6_ := Aside0.mk (blk_below (g := gb319) (o := .cells #[.slice A0_0 l0_0.length c0_0, .slice A0_1 l0_1.length c0_1] 32 (0, 0)) (by (with_reducible repeat (first | refine blk_drewN ?_ _ | refine blk_drew ?_ | refine blk_alloc ?_ _)); exact BK319.out) hb); have n7_ := Aside0.mk (blk_below (g := gb334) (o := .cells #[.slice Ao21 t327.length co21, .slice Ao24 t330.length co24] 25 (0, 0)) (by (with_reducible repeat (first | refine blk_drewN ?_ _ | refine blk_drew ?_ | refine blk_alloc ?_ _)); exact BK334.out) hb); have n8_ := Aside0.mk (blk_below (g := gb341) (o := .cells #[.slice Ao28 t359.length co28, .slice Ao32 t360.length co32] 25 (0, 0)) (by (with_reducible repeat (first | refine blk_drewN ?_ _ | refine blk_drew ?_ | refine blk_alloc ?_ _)); exact BK341.out) hb); have n9_ := Aside0.mk (blk_below (g := gb349) (o := .cells #[.slice Ao35 t342.length co35, .slice Ao40 t345.length co40] 25 (0, 0)) (by (with_reducible repeat (first | refine blk_drewN ?_ _ | refine blk_drew ?_ | refine blk_alloc ?_ _)); exact BK349.out) hb); have n10_ := Aside0.mk (below_step (by repeat (first | (with_reducible first | exact HB.out | apply below_alloc | apply pw_below_drewN | apply below_drew1 | refine below_set ?_ GE319.out | refine below_set ?_ GE334.out | refine below_set ?_ GE341.out | refine below_set ?_ GE349.out) | exact HB.out)) hb); clear HO_335000; clear HO_335001; clear HO_342000; clear HO_342001; clear HO_350000; clear HO_350001; clear BK319; clear BK334; clear BK341; clear BK349; clear HB; have HO_335000 := n0_; have HO_335001 := n1_; have HO_342000 := n2_; have HO_342001 := n3_; have HO_350000 := n4_; have HO_350001 := n5_; have BK319 := n6_; have BK334 := n7_; have BK341 := n8_; have BK349 := n9_; have HB := n10_; clear n0_ n1_ n2_ n3_ n4_ n5_ n6_ n7_ n8_ n9_ n10_; (try clear hb); (try clear hb2); (try clear hk); (try clear hi); have hnb116 := NB319_334.out; have hnc116 := NB334_319.out; have hnb117 := NB319_341.out; have hnc117 := NB341_319.out; have hcz118_0 : w115.cell? ⟨gb319, 0, none⟩ = some (.slice A0_0 l0_0.length c0_0) := (blk_cell BK319.out 0).trans rfl; have hcz118_1 : w115.cell? ⟨gb319, 1, none⟩ = some (.slice A0_1 l0_1.length c0_1) := (blk_cell BK319.out 1).trans rfl; have hfz118_0 := blk_frozen BK319.out 0; have hfz118_1 := blk_frozen BK319.out 1) | ((with_reducible refine gate_callee (f := 19) rfl ?_); refine goesL_ (some 75) rfl rfl Try.func19 (by kernel_rfl) rfl #[.agg #[.slice A0_0 l0_0.length c0_0, .slice A0_1 l0_1.length c0_1]] rfl (by (try simp only [List.map_toArray, List.map_cons, List.map_nil]); first | done | rfl | (simp only [List.length_drop, List.length_take]; rfl)) ?_; (with_reducible refine (laws_toSystem.calls kj63 _ _ l0_0 _ _ l0_1 t366 t369 _ ?side1 ?side2 ?side3 ?side4 A106.out).mono ?_); (case side1 => repeat (first | exact (Kd.C_below HR0_0.out HB.out) | (with_reducible refine Kd.C_alloc ?_ _) | (with_reducible refine Kd.C_drewN ?_ _) | (with_reducible refine Kd.C_drew ?_))); (case side2 => exact HC0_0.out); (case side3 => repeat (first | exact (Kd.C_below HR0_1.out HB.out) | (with_reducible refine Kd.C_alloc ?_ _) | (with_reducible refine Kd.C_drewN ?_ _) | (with_reducible refine Kd.C_drew ?_))); (case side4 => exact HC0_1.out); rintro e w119 ⟨v367, v370, rfl, ho0, ho1, hb⟩; refine ⟨_, rfl, ?_⟩; have n0_ := Aside0.mk (Kd.R_elder' (by (with_reducible repeat (first | apply Kd.R_alloc | apply Kd.R_drewN | apply Kd.R_drew)); exact HO_335000.out) (Kd.R_base ho0) hb); have n1_ := Aside0.mk (Kd.R_elder' (by (with_reducible repeat (first | apply Kd.R_alloc | apply Kd.R_drewN | apply Kd.R_drew)); exact HO_335001.out) (Kd.R_base ho1) hb); have n2_ := Aside0.mk (Kd.R_elder' (by (with_reducible repeat (first | apply Kd.R_alloc | apply Kd.R_drewN | apply Kd.R_drew)); exact HO_342000.out) (Kd.R_base ho0) hb); have n3_ := Aside0.mk (Kd.R_elder' (by (with_reducible repeat (first | apply Kd.R_alloc | apply Kd.R_drewN | apply Kd.R_drew)); exact HO_342001.out) (Kd.R_base ho1) hb); have n4_ := Aside0.mk (Kd.R_elder' (by (with_reducible repeat (first | apply Kd.R_alloc | apply Kd.R_drewN | apply Kd.R_drew)); exact HO_350000.out) (Kd.R_base ho0) hb); have n5_ := Aside0.mk (Kd.R_elder' (by (with_reducible repeat (first | apply Kd.R_alloc | apply Kd.R_drewN | apply Kd.R_drew)); exact HO_350001.out) (Kd.R_base ho1) hb); have n6_ := Aside0.mk (Kd.R_lower (Kd.R_new' (Kd.R_new' (Kd.R_new' ho0 (Kd.R_lt (by (with_reducible repeat (first | apply Kd.R_alloc | apply Kd.R_drewN | apply Kd.R_drew)); exact HO_335000.out))) (Kd.R_lt (by (with_reducible repeat (first | apply Kd.R_alloc | apply Kd.R_drewN | apply Kd.R_drew)); exact HO_342000.out))) (Kd.R_lt (by (with_reducible repeat (first | apply Kd.R_alloc | apply Kd.R_drewN | apply Kd.R_drew)); exact HO_350000.out))) (below_size (by repeat (first | (with_reducible first | exact HB.out | apply below_alloc | apply pw_below_drewN | apply below_drew1 | refine below_set ?_ GE319.out | refine below_set ?_ GE334.out | refine below_set ?_ GE341.out | refine below_set ?_ GE349.out) | exact HB.out)))); have n7_ := Aside0.mk (Kd.R_lower (Kd.R_new' (Kd.R_new' (Kd.R_new' ho1 (Kd.R_lt (by (with_reducible repeat (first | apply Kd.R_alloc | apply Kd.R_drewN | apply Kd.R_drew)); exact HO_335001.out))) (Kd.R_lt (by (with_reducible repeat (first | apply Kd.R_alloc | apply Kd.R_drewN | apply Kd.R_drew)); exact HO_342001.out))) (Kd.R_lt (by (with_reducible repeat (first | apply Kd.R_alloc | apply Kd.R_drewN | apply Kd.R_drew)); exact HO_350001.out))) (below_size (by repeat (first | (with_reducible first | exact HB.out | apply below_alloc | apply pw_below_drewN | apply below_drew1 | refine below_set ?_ GE319.out | refine below_set ?_ GE334.out | refine below_set ?_ GE341.out | refine below_set ?_ GE349.out) | exact HB.out)))); have n8_ := Aside0.mk (blk_below (g := gb319) (o := .cells #[.slice A0_0 l0_0.length c0_0, .slice A0_1 l0_1.length c0_1] 32 (0, 0)) (by (with_reducible repeat (first | refine blk_drewN ?_ _ | refine blk_drew ?_ | refine blk_alloc ?_ _)); exact BK319.out) hb); have n9_ := Aside0.mk (blk_below (g := gb334) (o := .cells #[.slice Ao21 t327.length co21, .slice Ao24 t330.length co24] 25 (0, 0)) (by (with_reducible repeat (first | refine blk_drewN ?_ _ | refine blk_drew ?_ | refine blk_alloc ?_ _)); exact BK334.out) hb); have n10_ := Aside0.mk (blk_below (g := gb341) (o := .cells #[.slice Ao28 t359.length co28, .slice Ao32 t360.length co32] 25 (0, 0)) (by (with_reducible repeat (first | refine blk_drewN ?_ _ | refine blk_drew ?_ | refine blk_alloc ?_ _)); exact BK341.out) hb); have n11_ := Aside0.mk (blk_below (g := gb349) (o := .cells #[.slice Ao35 t342.length co35, .slice Ao40 t345.length co40] 25 (0, 0)) (by (with_reducible repeat (first | refine blk_drewN ?_ _ | refine blk_drew ?_ | refine blk_alloc ?_ _)); exact BK349.out) hb); have n12_ := Aside0.mk (below_step (by repeat (first | (with_reducible first | exact HB.out | apply below_alloc | apply pw_below_drewN | apply below_drew1 | refine below_set ?_ GE319.out | refine below_set ?_ GE334.out | refine below_set ?_ GE341.out | refine below_set ?_ GE349.out) | exact HB.out)) hb); clear HO_335000; clear HO_335001; clear HO_342000; clear HO_342001; clear HO_350000; clear HO_350001; clear BK319; clear BK334; clear BK341; clear BK349; clear HB; have HO_335000 := n0_; have HO_335001 := n1_; have HO_342000 := n2_; have HO_342001 := n3_; have HO_350000 := n4_; have HO_350001 := n5_; have HO368 := n6_; have HO371 := n7_; have BK319 := n8_; have BK334 := n9_; have BK341 := n10_; have BK349 := n11_; have HB := n12_; clear n0_ n1_ n2_ n3_ n4_ n5_ n6_ n7_ n8_ n9_ n10_ n11_ n12_; (try clear hb); (try clear hb2); (try clear hk); (try clear hi); (try clear ho0); (try clear ho1); obtain ⟨Ao120, co120, eo120⟩ := Kd.R_slice HO368.out; subst eo120; obtain ⟨Ao121, co121, eo121⟩ := Kd.R_slice HO371.out; subst eo121) | ((with_reducible refine gate_callee (f := 24) rfl ?_); refine goesL_ (some 76) rfl rfl Try.func24 (by kernel_rfl) rfl #[.agg #[.slice Ao120 t366.length co120, .slice Ao121 t369.length co121]] rfl (by (try simp only [List.map_toArray, List.map_cons, List.map_nil]); first | done | rfl | (simp only [List.length_drop, List.length_take]; rfl)) ?_; (with_reducible refine (impl_PlainSystem.calls _ _ t366 _ _ t369 t372 t375 t378 _ ?side1 ?side2 ?side3 ?side4 A107.out).mono ?_); (case side1 => repeat (first | exact (Kd.R_reads' HO368.out).2.2 | (with_reducible refine Kd.C_alloc ?_ _) | (with_reducible refine Kd.C_drewN ?_ _) | (with_reducible refine Kd.C_drew ?_))); (case side2 => exact (Kd.R_reads' HO368.out).2.1); (case side3 => repeat (first | exact (Kd.R_reads' HO371.out).2.2 | (with_reducible refine Kd.C_alloc ?_ _) | (with_reducible refine Kd.C_drewN ?_ _) | (with_reducible refine Kd.C_drew ?_))); (case side4 => exact (Kd.R_reads' HO371.out).2.1); rintro e w122 ⟨v373, v376, rfl, ho0, ho1, hb⟩; refine ⟨_, rfl, ?_⟩; have n0_ := Aside0.mk (Kd.R_elder' (by (with_reducible repeat (first | apply Kd.R_alloc | apply Kd.R_drewN | apply Kd.R_drew)); exact HO_335000.out) (Kd.R_base ho0) hb); have n1_ := Aside0.mk (Kd.R_elder' (by (with_reducible repeat (first | apply Kd.R_alloc | apply Kd.R_drewN | apply Kd.R_drew)); exact HO_335001.out) (Kd.R_base ho1) hb); have n2_ := Aside0.mk (Kd.R_elder' (by (with_reducible repeat (first | apply Kd.R_alloc | apply Kd.R_drewN | apply Kd.R_drew)); exact HO_342000.out) (Kd.R_base ho0) hb); have n3_ := Aside0.mk (Kd.R_elder' (by (with_reducible repeat (first | apply Kd.R_alloc | apply Kd.R_drewN | apply Kd.R_drew)); exact HO_342001.out) (Kd.R_base ho1) hb); have n4_ := Aside0.mk (Kd.R_elder' (by (with_reducible repeat (first | apply Kd.R_alloc | apply Kd.R_drewN | apply Kd.R_drew)); exact HO_350000.out) (Kd.R_base ho0) hb); have n5_ := Aside0.mk (Kd.R_elder' (by (with_reducible repeat (first | apply Kd.R_alloc | apply Kd.R_drewN | apply Kd.R_drew)); exact HO_350001.out) (Kd.R_base ho1) hb); have n6_ := Aside0.mk (Kd.R_elder' (by (with_reducible repeat (first | apply Kd.R_alloc | apply Kd.R_drewN | apply Kd.R_drew)); exact HO368.out) (Kd.R_base ho0) hb); have n7_ := Aside0.mk (Kd.R_elder' (by (with_reducible repeat (first | apply Kd.R_alloc | apply Kd.R_drewN | apply Kd.R_drew)); exact HO371.out) (Kd.R_base ho1) hb); have n8_ := Aside0.mk (Kd.R_lower (Kd.R_new' (Kd.R_new' (Kd.R_new' (Kd.R_new' ho0 (Kd.R_lt (by (with_reducible repeat (first | apply Kd.R_alloc | apply Kd.R_drewN | apply Kd.R_drew)); exact HO_335000.out))) (Kd.R_lt (by (with_reducible repeat (first | apply Kd.R_alloc | apply Kd.R_drewN | apply Kd.R_drew)); exact HO_342000.out))) (Kd.R_lt (by (with_reducible repeat (first | apply Kd.R_alloc | apply Kd.R_drewN | apply Kd.R_drew)); exact HO_350000.out))) (Kd.R_lt (by (with_reducible repeat (first | apply Kd.R_alloc | apply Kd.R_drewN | apply Kd.R_drew)); exact HO368.out))) (below_size (by repeat (first | (with_reducible first | exact HB.out | apply below_alloc | apply pw_below_drewN | apply below_drew1 | refine below_set ?_ GE319.out | refine below_set ?_ GE334.out | refine below_set ?_ GE341.out | refine below_set ?_ GE349.out) | exact HB.out)))); have n9_ := Aside0.mk (Kd.R_lower (Kd.R_new' (Kd.R_new' (Kd.R_new' (Kd.R_new' ho1 (Kd.R_lt (by (with_reducible repeat (first | apply Kd.R_alloc | apply Kd.R_drewN | apply Kd.R_drew)); exact HO_335001.out))) (Kd.R_lt (by (with_reducible repeat (first | apply Kd.R_alloc | apply Kd.R_drewN | apply Kd.R_drew)); exact HO_342001.out))) (Kd.R_lt (by (with_reducible repeat (first | apply Kd.R_alloc | apply Kd.R_drewN | apply Kd.R_drew)); exact HO_350001.out))) (Kd.R_lt (by (with_reducible repeat (first | apply Kd.R_alloc | apply Kd.R_drewN | apply Kd.R_drew)); exact HO371.out))) (below_size (by repeat (first | (with_reducible first | exact HB.out | apply below_alloc | apply pw_below_drewN | apply below_drew1 | refine below_set ?_ GE319.out | refine below_set ?_ GE334.out | refine below_set ?_ GE341.out | refine below_set ?_ GE349.out) | exact HB.out)))); have n10_ := Aside0.mk (blk_below (g := gb319) (o := .cells #[.slice A0_0 l0_0.length c0_0, .slice A0_1 l0_1.length c0_1] 32 (0, 0)) (by (with_reducible repeat (first | refine blk_drewN ?_ _ | refine blk_drew ?_ | refine blk_alloc ?_ _)); exact BK319.out) hb); have n11_ := Aside0.mk (blk_below (g := gb334) (o := .cells #[.slice Ao21 t327.length co21, .slice Ao24 t330.length co24] 25 (0, 0)) (by (with_reducible repeat (first | refine blk_drewN ?_ _ | refine blk_drew ?_ | refine blk_alloc ?_ _)); exact BK334.out) hb); have n12_ := Aside0.mk (blk_below (g := gb341) (o := .cells #[.slice Ao28 t359.length co28, .slice Ao32 t360.length co32] 25 (0, 0)) (by (with_reducible repeat (first | refine blk_drewN ?_ _ | refine blk_drew ?_ | refine blk_alloc ?_ _)); exact BK341.out) hb); have n13_ := Aside0.mk (blk_below (g := gb349) (o := .cells #[.slice Ao35 t342.length co35, .slice Ao40 t345.length co40] 25 (0, 0)) (by (with_reducible repeat (first | refine blk_drewN ?_ _ | refine blk_drew ?_ | refine blk_alloc ?_ _)); exact BK349.out) hb); have n14_ := Aside0.mk (below_step (by repeat (first | (with_reducible first | exact HB.out | apply below_alloc | apply pw_below_drewN | apply below_drew1 | refine below_set ?_ GE319.out | refine below_set ?_ GE334.out | refine below_set ?_ GE341.out | refine below_set ?_ GE349.out) | exact HB.out)) hb); clear HO_335000; clear HO_335001; clear HO_342000; clear HO_342001; clear HO_350000; clear HO_350001; clear HO368; clear HO371; clear BK319; clear BK334; clear BK341; clear BK349; clear HB; have HO_335000 := n0_; have HO_335001 := n1_; have HO_342000 := n2_; have HO_342001 := n3_; have HO_350000 := n4_; have HO_350001 := n5_; have HO368 := n6_; have HO371 := n7_; have HO374 := n8_; have HO377 := n9_; have BK319 := n10_; have BK334 := n11_; have BK341 := n12_; have BK349 := n13_; have HB := n14_; clear n0_ n1_ n2_ n3_ n4_ n5_ n6_ n7_ n8_ n9_ n10_ n11_ n12_ n13_ n14_; (try clear hb); (try clear hb2); (try clear hk); (try clear hi); (try clear ho0); (try clear ho1)) | ((with_reducible refine gate_dst (N := 12) rfl ?_); refine box_event ?hg (N := 12) ?hd (cs := #[.slice none 0 0, .slice none 0 0]) (t := 25) ?hr ?_; (case hd => rfl); (case hg => rfl); (case hr => first | (go_simp; done) | (go_simp; rfl)); intro gb379 hg w123 hbox hb; have n0_ := Aside0.mk (Kd.R_below (by (with_reducible repeat (first | apply Kd.R_alloc | apply Kd.R_drewN | apply Kd.R_drew)); exact HO_335000.out) hb); have n1_ := Aside0.mk (Kd.R_below (by (with_reducible repeat (first | apply Kd.R_alloc | apply Kd.R_drewN | apply Kd.R_drew)); exact HO_335001.out) hb); have n2_ := Aside0.mk (Kd.R_below (by (with_reducible repeat (first | apply Kd.R_alloc | apply Kd.R_drewN | apply Kd.R_drew)); exact HO_342000.out) hb); have n3_ := Aside0.mk (Kd.R_below (by (with_reducible repeat (first | apply Kd.R_alloc | apply Kd.R_drewN | apply Kd.R_drew)); exact HO_342001.out) hb); have n4_ := Aside0.mk (Kd.R_below (by (with_reducible repeat (first | apply Kd.R_alloc | apply Kd.R_drewN | apply Kd.R_drew)); exact HO_350000.out) hb); have n5_ := Aside0.mk (Kd.R_below (by (with_reducible repeat (first | apply Kd.R_alloc | apply Kd.R_drewN | apply Kd.R_drew)); exact HO_350001.out) hb); have n6_ := Aside0.mk (Kd.R_below (by (with_reducible repeat (first | apply Kd.R_alloc | apply Kd.R_drewN | apply Kd.R_drew)); exact HO368.out) hb); have n7_ := Aside0.mk (Kd.R_below (by (with_reducible repeat (first | apply Kd.R_alloc | apply Kd.R_drewN | apply Kd.R_drew)); exact HO371.out) hb); have n8_ := Aside0.mk (Kd.R_below (by (with_reducible repeat (first | apply Kd.R_alloc | apply Kd.R_drewN | apply Kd.R_drew)); exact HO374.out) hb); have n9_ := Aside0.mk (Kd.R_below (by (with_reducible repeat (first | apply Kd.R_alloc | apply Kd.R_drewN | apply Kd.R_drew)); exact HO377.out) hb); have n10_ := Aside0.mk (blk_below (g := gb319) (o := .cells #[.slice A0_0 l0_0.length c0_0, .slice A0_1 l0_1.length c0_1] 32 (0, 0)) (by (with_reducible repeat (first | refine blk_drewN ?_ _ | refine blk_drew ?_ | refine blk_alloc ?_ _)); exact BK319.out) hb); have n11_ := Aside0.mk (blk_below (g := gb334) (o := .cells #[.slice Ao21 t327.length co21, .slice Ao24 t330.length co24] 25 (0, 0)) (by (with_reducible repeat (first | refine blk_drewN ?_ _ | refine blk_drew ?_ | refine blk_alloc ?_ _)); exact BK334.out) hb); have n12_ := Aside0.mk (blk_below (g := gb341) (o := .cells #[.slice Ao28 t359.length co28, .slice Ao32 t360.length co32] 25 (0, 0)) (by (with_reducible repeat (first | refine blk_drewN ?_ _ | refine blk_drew ?_ | refine blk_alloc ?_ _)); exact BK341.out) hb); have n13_ := Aside0.mk (blk_below (g := gb349) (o := .cells #[.slice Ao35 t342.length co35, .slice Ao40 t345.length co40] 25 (0, 0)) (by (with_reducible repeat (first | refine blk_drewN ?_ _ | refine blk_drew ?_ | refine blk_alloc ?_ _)); exact BK349.out) hb); have n14_ := Aside0.mk (below_step (by repeat (first | (with_reducible first | exact HB.out | apply below_alloc | apply pw_below_drewN | apply below_drew1 | refine below_set ?_ GE319.out | refine below_set ?_ GE334.out | refine below_set ?_ GE341.out | refine below_set ?_ GE349.out) | exact HB.out)) hb); have n15_ := Aside0.mk (hbox); have n16_ := Aside0.mk ((by rw [hg]; exact (below_size (by repeat (first | (with_reducible first | exact HB.out | apply below_alloc | apply pw_below_drewN | apply below_drew1 | refine below_set ?_ GE319.out | refine below_set ?_ GE334.out | refine below_set ?_ GE341.out | refine below_set ?_ GE349.out) | exact HB.out))) : w.heap.size ≤ gb379)); have n17_ := Aside0.mk ((by rw [hg]; exact (below_size (by repeat (first | (with_reducible first | exact HB.out | apply below_alloc | apply pw_below_drewN | apply below_drew1 | refine below_set ?_ GE319.out | refine below_set ?_ GE334.out | refine below_set ?_ GE341.out | refine below_set ?_ GE349.out) | exact HB.out))) : w.heap.size ≤ gb379)); have n18_ := Aside0.mk ((by rw [hg]; exact Nat.ne_of_lt (blk_lt (g := gb319) (o := .cells #[.slice A0_0 l0_0.length c0_0, .slice A0_1 l0_1.length c0_1] 32 (0, 0)) (by (with_reducible repeat (first | refine blk_drewN ?_ _ | refine blk_drew ?_ | refine blk_alloc ?_ _)); exact BK319.out)) : gb319 ≠ gb379)); have n19_ := Aside0.mk ((by rw [hg]; exact Nat.ne_of_gt (blk_lt (g := gb319) (o := .cells #[.slice A0_0 l0_0.length c0_0, .slice A0_1 l0_1.length c0_1] 32 (0, 0)) (by (with_reducible repeat (first | refine blk_drewN ?_ _ | refine blk_drew ?_ | refine blk_alloc ?_ _)); exact BK319.out)) : gb379 ≠ gb319)); have n20_ := Aside0.mk ((by rw [hg]; exact Nat.ne_of_lt (blk_lt (g := gb334) (o := .cells #[.slice Ao21 t327.length co21, .slice Ao24 t330.length co24] 25 (0, 0)) (by (with_reducible repeat (first | refine blk_drewN ?_ _ | refine blk_drew ?_ | refine blk_alloc ?_ _)); exact BK334.out)) : gb334 ≠ gb379)); have n21_ := Aside0.mk ((by rw [hg]; exact Nat.ne_of_gt (blk_lt (g := gb334) (o := .cells #[.slice Ao21 t327.length co21, .slice Ao24 t330.length co24] 25 (0, 0)) (by (with_reducible repeat (first | refine blk_drewN ?_ _ | refine blk_drew ?_ | refine blk_alloc ?_ _)); exact BK334.out)) : gb379 ≠ gb334)); have n22_ := Aside0.mk ((by rw [hg]; exact Nat.ne_of_lt (blk_lt (g := gb341) (o := .cells #[.slice Ao28 t359.length co28, .slice Ao32 t360.length co32] 25 (0, 0)) (by (with_reducible repeat (first | refine blk_drewN ?_ _ | refine blk_drew ?_ | refine blk_alloc ?_ _)); exact BK341.out)) : gb341 ≠ gb379)); have n23_ := Aside0.mk ((by rw [hg]; exact Nat.ne_of_gt (blk_lt (g := gb341) (o := .cells #[.slice Ao28 t359.length co28, .slice Ao32 t360.length co32] 25 (0, 0)) (by (with_reducible repeat (first | refine blk_drewN ?_ _ | refine blk_drew ?_ | refine blk_alloc ?_ _)); exact BK341.out)) : gb379 ≠ gb341)); have n24_ := Aside0.mk ((by rw [hg]; exact Nat.ne_of_lt (blk_lt (g := gb349) (o := .cells #[.slice Ao35 t342.length co35, .slice Ao40 t345.length co40] 25 (0, 0)) (by (with_reducible repeat (first | refine blk_drewN ?_ _ | refine blk_drew ?_ | refine blk_alloc ?_ _)); exact BK349.out)) : gb349 ≠ gb379)); have n25_ := Aside0.mk ((by rw [hg]; exact Nat.ne_of_gt (blk_lt (g := gb349) (o := .cells #[.slice Ao35 t342.length co35, .slice Ao40 t345.length co40] 25 (0, 0)) (by (with_reducible repeat (first | refine blk_drewN ?_ _ | refine blk_drew ?_ | refine blk_alloc ?_ _)); exact BK349.out)) : gb379 ≠ gb349)); clear HO_335000; clear HO_335001; clear HO_342000; clear HO_342001; clear HO_350000; clear HO_350001; clear HO368; clear HO371; clear HO374; clear HO377; clear BK319; clear BK334; clear BK341; clear BK349; clear HB; have HO_335000 := n0_; have HO_335001 := n1_; have HO_342000 := n2_; have HO_342001 := n3_; have HO_350000 := n4_; have HO_350001 := n5_; have HO368 := n6_; have HO371 := n7_; have HO374 := n8_; have HO377 := n9_; have BK319 := n10_; have BK334 := n11_; have BK341 := n12_; have BK349 := n13_; have HB := n14_; have BK379 := n15_; have GW379 := n16_; have GE379 := n17_; have NB319_379 := n18_; have NB379_319 := n19_; have NB334_379 := n20_; have NB379_334 := n21_; have NB341_379 := n22_; have NB379_341 := n23_; have NB349_379 := n24_; have NB379_349 := n25_; clear n0_ n1_ n2_ n3_ n4_ n5_ n6_ n7_ n8_ n9_ n10_ n11_ n12_ n13_ n14_ n15_ n16_ n17_ n18_ n19_ n20_ n21_ n22_ n23_ n24_ n25_; clear hb hbox hg; obtain ⟨Ao124, co124, eo124⟩ := Kd.R_slice HO374.out; subst eo124; have hnb125 := NB379_319.out; have hnc125 := NB319_379.out; have hnb126 := NB379_334.out; have hnc126 := NB334_379.out; have hnb127 := NB379_341.out; have hnc127 := NB341_379.out; have hnb128 := NB379_349.out; have hnc128 := NB349_379.out; have hcz129_0 : w123.cell? ⟨gb379, 0, none⟩ = some (.slice none 0 0) := (blk_cell BK379.out 0).trans rfl; have hcz129_1 : w123.cell? ⟨gb379, 1, none⟩ = some (.slice none 0 0) := (blk_cell BK379.out 1).trans rfl; have hfz129_0 := blk_frozen BK379.out 0; have hfz129_1 := blk_frozen BK379.out 1; obtain ⟨Ao130, co130, eo130⟩ := Kd.R_slice HO377.out; subst eo130))
                      (try simp only [Act.put, List.setIfInBounds_toArray, List.set_cons_zero, List.set_cons_succ])
                      go_cut [87] (fun v87 wc => ∃ (kq : Nat) (x87_107 : Bool), v87 = .bool x87_107 ∧ Aside0 (laws_FnExactPlainSystem.j2 kq t362 x87_107 t363 t364 = some true) ∧ Aside0 (kq ≤ kj63) ∧ Aside0 (Kd.R k58 58 wc w.heap.size (fun k_ => some k_ ≠ ((.slice Ao28 t359.length co28) : Value).ownBlock ∧ some k_ ≠ ((.slice Ao35 t342.length co35) : Value).ownBlock ∧ some k_ ≠ ((.slice Ao124 t372.length co124) : Value).ownBlock) (.slice Ao21 t327.length co21) t327) ∧ Aside0 (Kd.R k59 59 wc w.heap.size (fun k_ => some k_ ≠ ((.slice Ao32 t360.length co32) : Value).ownBlock ∧ some k_ ≠ ((.slice Ao40 t345.length co40) : Value).ownBlock ∧ some k_ ≠ ((.slice Ao130 t375.length co130) : Value).ownBlock) (.slice Ao24 t330.length co24) t330) ∧ Aside0 (Kd.R k58 58 wc w.heap.size (fun k_ => some k_ ≠ ((.slice Ao21 t327.length co21) : Value).ownBlock ∧ some k_ ≠ ((.slice Ao35 t342.length co35) : Value).ownBlock ∧ some k_ ≠ ((.slice Ao124 t372.length co124) : Value).ownBlock) (.slice Ao28 t359.length co28) t359) ∧ Aside0 (Kd.R k59 59 wc w.heap.size (fun k_ => some k_ ≠ ((.slice Ao24 t330.length co24) : Value).ownBlock ∧ some k_ ≠ ((.slice Ao40 t345.length co40) : Value).ownBlock ∧ some k_ ≠ ((.slice Ao130 t375.length co130) : Value).ownBlock) (.slice Ao32 t360.length co32) t360) ∧ Aside0 (Kd.R k58 58 wc w.heap.size (fun k_ => some k_ ≠ ((.slice Ao21 t327.length co21) : Value).ownBlock ∧ some k_ ≠ ((.slice Ao28 t359.length co28) : Value).ownBlock ∧ some k_ ≠ ((.slice Ao124 t372.length co124) : Value).ownBlock) (.slice Ao35 t342.length co35) t363) ∧ Aside0 (Kd.R k59 59 wc w.heap.size (fun k_ => some k_ ≠ ((.slice Ao24 t330.length co24) : Value).ownBlock ∧ some k_ ≠ ((.slice Ao32 t360.length co32) : Value).ownBlock ∧ some k_ ≠ ((.slice Ao130 t375.length co130) : Value).ownBlock) (.slice Ao40 t345.length co40) t364) ∧ Aside0 (Kd.R k58 58 wc w.heap.size (fun k_ => some k_ ≠ ((.slice Ao21 t327.length co21) : Value).ownBlock ∧ some k_ ≠ ((.slice Ao28 t359.length co28) : Value).ownBlock ∧ some k_ ≠ ((.slice Ao35 t342.length co35) : Value).ownBlock) (.slice Ao124 t372.length co124) t372) ∧ Aside0 (Kd.R k59 59 wc w.heap.size (fun k_ => some k_ ≠ ((.slice Ao24 t330.length co24) : Value).ownBlock ∧ some k_ ≠ ((.slice Ao32 t360.length co32) : Value).ownBlock ∧ some k_ ≠ ((.slice Ao40 t345.length co40) : Value).ownBlock) (.slice Ao130 t375.length co130) t375) ∧ Aside0 (wc.heap[gb319]? = some (.cells #[(.slice A0_0 l0_0.length c0_0), (.slice A0_1 l0_1.length c0_1)] 32 (0, 0))) ∧ Aside0 (wc.heap[gb334]? = some (.cells #[(.slice Ao21 t327.length co21), (.slice Ao24 t330.length co24)] 25 (0, 0))) ∧ Aside0 (wc.heap[gb341]? = some (.cells #[(.slice Ao28 t359.length co28), (.slice Ao32 t360.length co32)] 25 (0, 0))) ∧ Aside0 (wc.heap[gb349]? = some (.cells #[(.slice Ao35 t342.length co35), (.slice Ao40 t345.length co40)] 25 (0, 0))) ∧ Aside0 (wc.heap[gb379]? = some (.cells #[(.slice Ao124 t372.length co124), (.slice Ao130 t375.length co130)] 25 (0, 0))) ∧ Aside0 (Below w.heap.size w wc))
                      case first =>
                        have H := HC108.out
                        clear HC108
                        replace H := Option.bind_eq_some_iff.mp H
                        obtain ⟨t380, A1310, H⟩ := H
                        replace H : (if t380 = true then (laws_FnExactPlainSystem.j2 kj63 t362 (t378 != t333) t363 t364) else (laws_FnExactPlainSystem.j2 kj63 t362 true t363 t364)) = some true := H
                        have A131 := Aside0.mk A1310
                        clear A1310
                        by_cases c132 : t380 = true
                        · subst c132
                          have H1 : (laws_FnExactPlainSystem.j2 kj63 t362 (t378 != t333) t363 t364) = some true := by rw [if_pos rfl] at H; exact H
                          clear H
                          have H := H1
                          clear H1
                          have H' := Aside0.mk H
                          clear H
                          have hnb133 := NB379_319.out
                          have hnc133 := NB319_379.out
                          have hnb134 := NB379_334.out
                          have hnc134 := NB334_379.out
                          have hnb135 := NB379_341.out
                          have hnc135 := NB341_379.out
                          have hnb136 := NB379_349.out
                          have hnc136 := NB349_379.out
                          have hcz137_0 : w123.cell? ⟨gb379, 0, none⟩ = some (.slice none 0 0) := (blk_cell BK379.out 0).trans rfl
                          have hcz137_1 : w123.cell? ⟨gb379, 1, none⟩ = some (.slice none 0 0) := (blk_cell BK379.out 1).trans rfl
                          have hfz137_0 := blk_frozen BK379.out 0
                          have hfz137_1 := blk_frozen BK379.out 1
                          have hnb138 := NB334_319.out
                          have hnc138 := NB319_334.out
                          have hnb139 := NB334_341.out
                          have hnc139 := NB341_334.out
                          have hnb140 := NB334_349.out
                          have hnc140 := NB349_334.out
                          have hcz141_0 : w123.cell? ⟨gb334, 0, none⟩ = some (.slice Ao21 t327.length co21) := (blk_cell BK334.out 0).trans rfl
                          have hcz141_1 : w123.cell? ⟨gb334, 1, none⟩ = some (.slice Ao24 t330.length co24) := (blk_cell BK334.out 1).trans rfl
                          have hfz141_0 := blk_frozen BK334.out 0
                          have hfz141_1 := blk_frozen BK334.out 1
                          go_wp2_with (first | ((with_reducible refine gate_callee (f := 14) rfl ?_); refine goesL_ (some 81) rfl rfl Try.func14 (by kernel_rfl) rfl #[.agg #[.slice Ao124 t372.length co124, .slice Ao130 t375.length co130], .agg #[.slice Ao21 t327.length co21, .slice Ao24 t330.length co24]] rfl (by (try simp only [List.map_toArray, List.map_cons, List.map_nil]); first | done | rfl | (simp only [List.length_drop, List.length_take]; rfl)) ?_; (with_reducible refine (laws_eqSystem.calls kj63 _ _ t372 _ _ t375 _ _ t327 _ _ t330 true _ ?side1 ?side2 ?side3 ?side4 ?side5 ?side6 ?side7 ?side8 A131.out).mono ?_); (case side1 => refine (Kd.R_reads' (e := 58) (base := w.heap.size) (ok := fun k_ => ((((True ∧ some k_ ≠ (.slice Ao21 t327.length co21 : Value).ownBlock) ∧ some k_ ≠ (.slice Ao28 t359.length co28 : Value).ownBlock) ∧ some k_ ≠ (.slice Ao35 t342.length co35 : Value).ownBlock) ∧ some k_ ≠ (.slice Ao120 t366.length co120 : Value).ownBlock)) (n := t372.length) (c := co124) ?_).2.2; exact (by (with_reducible repeat (first | apply Kd.R_alloc | apply Kd.R_drewN | apply Kd.R_drew)); exact (Kd.R_mono (Kd.R_far (p := ⟨gb379, 1, none⟩) (Kd.R_far (p := ⟨gb379, 0, none⟩) (Kd.R_types HO374.out BK379.out (by decide)) (fun _ hk => hk.2) (.slice Ao124 t372.length co124)) (fun _ hk => hk.2) (.slice Ao130 t375.length co130)) (fun _ h_ => h_.1)))); (case side2 => exact (Kd.R_reads' HO374.out).2.1); (case side3 => refine (Kd.R_reads' (e := 59) (base := w.heap.size) (ok := fun k_ => ((((True ∧ some k_ ≠ (.slice Ao24 t330.length co24 : Value).ownBlock) ∧ some k_ ≠ (.slice Ao32 t360.length co32 : Value).ownBlock) ∧ some k_ ≠ (.slice Ao40 t345.length co40 : Value).ownBlock) ∧ some k_ ≠ (.slice Ao121 t369.length co121 : Value).ownBlock)) (n := t375.length) (c := co130) ?_).2.2; exact (by (with_reducible repeat (first | apply Kd.R_alloc | apply Kd.R_drewN | apply Kd.R_drew)); exact (Kd.R_mono (Kd.R_far (p := ⟨gb379, 1, none⟩) (Kd.R_far (p := ⟨gb379, 0, none⟩) (Kd.R_types HO377.out BK379.out (by decide)) (fun _ hk => hk.2) (.slice Ao124 t372.length co124)) (fun _ hk => hk.2) (.slice Ao130 t375.length co130)) (fun _ h_ => h_.1)))); (case side4 => exact (Kd.R_reads' HO377.out).2.1); (case side5 => refine (Kd.R_reads' (e := 58) (base := w.heap.size) (ok := fun k_ => (((some k_ ≠ (.slice Ao28 t359.length co28 : Value).ownBlock ∧ some k_ ≠ (.slice Ao35 t342.length co35 : Value).ownBlock) ∧ some k_ ≠ (.slice Ao120 t366.length co120 : Value).ownBlock) ∧ some k_ ≠ (.slice Ao124 t372.length co124 : Value).ownBlock)) (n := t327.length) (c := co21) ?_).2.2; exact (by (with_reducible repeat (first | apply Kd.R_alloc | apply Kd.R_drewN | apply Kd.R_drew)); exact (Kd.R_mono (Kd.R_far (p := ⟨gb379, 1, none⟩) (Kd.R_far (p := ⟨gb379, 0, none⟩) (Kd.R_types HO_335000.out BK379.out (by decide)) (fun _ hk => hk.2) (.slice Ao124 t372.length co124)) (fun _ hk => hk.2) (.slice Ao130 t375.length co130)) (fun _ h_ => h_.1)))); (case side6 => exact (Kd.R_reads' HO_335000.out).2.1); (case side7 => refine (Kd.R_reads' (e := 59) (base := w.heap.size) (ok := fun k_ => (((some k_ ≠ (.slice Ao32 t360.length co32 : Value).ownBlock ∧ some k_ ≠ (.slice Ao40 t345.length co40 : Value).ownBlock) ∧ some k_ ≠ (.slice Ao121 t369.length co121 : Value).ownBlock) ∧ some k_ ≠ (.slice Ao130 t375.length co130 : Value).ownBlock)) (n := t330.length) (c := co24) ?_).2.2; exact (by (with_reducible repeat (first | apply Kd.R_alloc | apply Kd.R_drewN | apply Kd.R_drew)); exact (Kd.R_mono (Kd.R_far (p := ⟨gb379, 1, none⟩) (Kd.R_far (p := ⟨gb379, 0, none⟩) (Kd.R_types HO_335001.out BK379.out (by decide)) (fun _ hk => hk.2) (.slice Ao124 t372.length co124)) (fun _ hk => hk.2) (.slice Ao130 t375.length co130)) (fun _ h_ => h_.1)))); (case side8 => exact (Kd.R_reads' HO_335001.out).2.1); rintro e w142 ⟨rfl, hb⟩; refine ⟨_, rfl, ?_⟩; have n0_ := Aside0.mk (Kd.R_below (by (with_reducible repeat (first | apply Kd.R_alloc | apply Kd.R_drewN | apply Kd.R_drew)); exact (Kd.R_mono (Kd.R_far (p := ⟨gb379, 1, none⟩) (Kd.R_far (p := ⟨gb379, 0, none⟩) (Kd.R_types HO_335000.out BK379.out (by decide)) (fun _ hk => hk.2) (.slice Ao124 t372.length co124)) (fun _ hk => hk.2) (.slice Ao130 t375.length co130)) (fun _ h_ => h_.1))) hb); have n1_ := Aside0.mk (Kd.R_below (by (with_reducible repeat (first | apply Kd.R_alloc | apply Kd.R_drewN | apply Kd.R_drew)); exact (Kd.R_mono (Kd.R_far (p := ⟨gb379, 1, none⟩) (Kd.R_far (p := ⟨gb379, 0, none⟩) (Kd.R_types HO_335001.out BK379.out (by decide)) (fun _ hk => hk.2) (.slice Ao124 t372.length co124)) (fun _ hk => hk.2) (.slice Ao130 t375.length co130)) (fun _ h_ => h_.1))) hb); have n2_ := Aside0.mk (Kd.R_below (by (with_reducible repeat (first | apply Kd.R_alloc | apply Kd.R_drewN | apply Kd.R_drew)); exact (Kd.R_mono (Kd.R_far (p := ⟨gb379, 1, none⟩) (Kd.R_far (p := ⟨gb379, 0, none⟩) (Kd.R_types HO_342000.out BK379.out (by decide)) (fun _ hk => hk.2) (.slice Ao124 t372.length co124)) (fun _ hk => hk.2) (.slice Ao130 t375.length co130)) (fun _ h_ => h_.1))) hb); have n3_ := Aside0.mk (Kd.R_below (by (with_reducible repeat (first | apply Kd.R_alloc | apply Kd.R_drewN | apply Kd.R_drew)); exact (Kd.R_mono (Kd.R_far (p := ⟨gb379, 1, none⟩) (Kd.R_far (p := ⟨gb379, 0, none⟩) (Kd.R_types HO_342001.out BK379.out (by decide)) (fun _ hk => hk.2) (.slice Ao124 t372.length co124)) (fun _ hk => hk.2) (.slice Ao130 t375.length co130)) (fun _ h_ => h_.1))) hb); have n4_ := Aside0.mk (Kd.R_below (by (with_reducible repeat (first | apply Kd.R_alloc | apply Kd.R_drewN | apply Kd.R_drew)); exact (Kd.R_mono (Kd.R_far (p := ⟨gb379, 1, none⟩) (Kd.R_far (p := ⟨gb379, 0, none⟩) (Kd.R_types HO_350000.out BK379.out (by decide)) (fun _ hk => hk.2) (.slice Ao124 t372.length co124)) (fun _ hk => hk.2) (.slice Ao130 t375.length co130)) (fun _ h_ => h_.1))) hb); have n5_ := Aside0.mk (Kd.R_below (by (with_reducible repeat (first | apply Kd.R_alloc | apply Kd.R_drewN | apply Kd.R_drew)); exact (Kd.R_mono (Kd.R_far (p := ⟨gb379, 1, none⟩) (Kd.R_far (p := ⟨gb379, 0, none⟩) (Kd.R_types HO_350001.out BK379.out (by decide)) (fun _ hk => hk.2) (.slice Ao124 t372.length co124)) (fun _ hk => hk.2) (.slice Ao130 t375.length co130)) (fun _ h_ => h_.1))) hb); have n6_ := Aside0.mk (Kd.R_below (by (with_reducible repeat (first | apply Kd.R_alloc | apply Kd.R_drewN | apply Kd.R_drew)); exact (Kd.R_mono (Kd.R_far (p := ⟨gb379, 1, none⟩) (Kd.R_far (p := ⟨gb379, 0, none⟩) (Kd.R_types HO368.out BK379.out (by decide)) (fun _ hk => hk.2) (.slice Ao124 t372.length co124)) (fun _ hk => hk.2) (.slice Ao130 t375.length co130)) (fun _ h_ => h_.1))) hb); have n7_ := Aside0.mk (Kd.R_below (by (with_reducible repeat (first | apply Kd.R_alloc | apply Kd.R_drewN | apply Kd.R_drew)); exact (Kd.R_mono (Kd.R_far (p := ⟨gb379, 1, none⟩) (Kd.R_far (p := ⟨gb379, 0, none⟩) (Kd.R_types HO371.out BK379.out (by decide)) (fun _ hk => hk.2) (.slice Ao124 t372.length co124)) (fun _ hk => hk.2) (.slice Ao130 t375.length co130)) (fun _ h_ => h_.1))) hb); have n8_ := Aside0.mk (Kd.R_below (by (with_reducible repeat (first | apply Kd.R_alloc | apply Kd.R_drewN | apply Kd.R_drew)); exact (Kd.R_mono (Kd.R_far (p := ⟨gb379, 1, none⟩) (Kd.R_far (p := ⟨gb379, 0, none⟩) (Kd.R_types HO374.out BK379.out (by decide)) (fun _ hk => hk.2) (.slice Ao124 t372.length co124)) (fun _ hk => hk.2) (.slice Ao130 t375.length co130)) (fun _ h_ => h_.1))) hb); have n9_ := Aside0.mk (Kd.R_below (by (with_reducible repeat (first | apply Kd.R_alloc | apply Kd.R_drewN | apply Kd.R_drew)); exact (Kd.R_mono (Kd.R_far (p := ⟨gb379, 1, none⟩) (Kd.R_far (p := ⟨gb379, 0, none⟩) (Kd.R_types HO377.out BK379.out (by decide)) (fun _ hk => hk.2) (.slice Ao124 t372.length co124)) (fun _ hk => hk.2) (.slice Ao130 t375.length co130)) (fun _ h_ => h_.1))) hb); have n10_ := Aside0.mk (blk_below (g := gb319) (o := .cells #[.slice A0_0 l0_0.length c0_0, .slice A0_1 l0_1.length c0_1] 32 (0, 0)) (by (with_reducible repeat (first | refine blk_drewN ?_ _ | refine blk_drew ?_ | refine blk_alloc ?_ _)); refine blk_far ?_ NB319_379.out _; (with_reducible repeat (first | refine blk_drewN ?_ _ | refine blk_drew ?_ | refine blk_alloc ?_ _)); refine blk_far ?_ NB319_379.out _; (with_reducible repeat (first | refine blk_drewN ?_ _ | refine blk_drew ?_ | refine blk_alloc ?_ _)); exact BK319.out) hb); have n11_ := Aside0.mk (blk_below (g := gb334) (o := .cells #[.slice Ao21 t327.length co21, .slice Ao24 t330.length co24] 25 (0, 0)) (by (with_reducible repeat (first | refine blk_drewN ?_ _ | refine blk_drew ?_ | refine blk_alloc ?_ _)); refine blk_far ?_ NB334_379.out _; (with_reducible repeat (first | refine blk_drewN ?_ _ | refine blk_drew ?_ | refine blk_alloc ?_ _)); refine blk_far ?_ NB334_379.out _; (with_reducible repeat (first | refine blk_drewN ?_ _ | refine blk_drew ?_ | refine blk_alloc ?_ _)); exact BK334.out) hb); have n12_ := Aside0.mk (blk_below (g := gb341) (o := .cells #[.slice Ao28 t359.length co28, .slice Ao32 t360.length co32] 25 (0, 0)) (by (with_reducible repeat (first | refine blk_drewN ?_ _ | refine blk_drew ?_ | refine blk_alloc ?_ _)); refine blk_far ?_ NB341_379.out _; (with_reducible repeat (first | refine blk_drewN ?_ _ | refine blk_drew ?_ | refine blk_alloc ?_ _)); refine blk_far ?_ NB341_379.out _; (with_reducible repeat (first | refine blk_drewN ?_ _ | refine blk_drew ?_ | refine blk_alloc ?_ _)); exact BK341.out) hb); have n13_ := Aside0.mk (blk_below (g := gb349) (o := .cells #[.slice Ao35 t342.length co35, .slice Ao40 t345.length co40] 25 (0, 0)) (by (with_reducible repeat (first | refine blk_drewN ?_ _ | refine blk_drew ?_ | refine blk_alloc ?_ _)); refine blk_far ?_ NB349_379.out _; (with_reducible repeat (first | refine blk_drewN ?_ _ | refine blk_drew ?_ | refine blk_alloc ?_ _)); refine blk_far ?_ NB349_379.out _; (with_reducible repeat (first | refine blk_drewN ?_ _ | refine blk_drew ?_ | refine blk_alloc ?_ _)); exact BK349.out) hb); have n14_ := Aside0.mk (blk_below (g := gb379) (o := .cells #[.slice Ao124 t372.length co124, .slice Ao130 t375.length co130] 25 (0, 0)) (by (with_reducible repeat (first | refine blk_drewN ?_ _ | refine blk_drew ?_ | refine blk_alloc ?_ _)); refine blk_put (cs := #[.slice Ao124 t372.length co124, .slice none 0 0]) ?_ 1 _ rfl; (with_reducible repeat (first | refine blk_drewN ?_ _ | refine blk_drew ?_ | refine blk_alloc ?_ _)); refine blk_put (cs := #[.slice none 0 0, .slice none 0 0]) ?_ 0 _ rfl; (with_reducible repeat (first | refine blk_drewN ?_ _ | refine blk_drew ?_ | refine blk_alloc ?_ _)); exact BK379.out) hb); have n15_ := Aside0.mk (below_step (by repeat (first | (with_reducible first | exact HB.out | apply below_alloc | apply pw_below_drewN | apply below_drew1 | refine below_set ?_ GE319.out | refine below_set ?_ GE334.out | refine below_set ?_ GE341.out | refine below_set ?_ GE349.out | refine below_set ?_ GE379.out) | exact HB.out)) hb); clear HO_335000; clear HO_335001; clear HO_342000; clear HO_342001; clear HO_350000; clear HO_350001; clear HO368; clear HO371; clear HO374; clear HO377; clear BK319; clear BK334; clear BK341; clear BK349; clear BK379; clear HB; have HO_335000 := n0_; have HO_335001 := n1_; have HO_342000 := n2_; have HO_342001 := n3_; have HO_350000 := n4_; have HO_350001 := n5_; have HO368 := n6_; have HO371 := n7_; have HO374 := n8_; have HO377 := n9_; have BK319 := n10_; have BK334 := n11_; have BK341 := n12_; have BK349 := n13_; have BK379 := n14_; have HB := n15_; clear n0_ n1_ n2_ n3_ n4_ n5_ n6_ n7_ n8_ n9_ n10_ n11_ n12_ n13_ n14_ n15_; (try clear hb); (try clear hb2); (try clear hk); (try clear hi)))
                          go_meet
                          case rel => exact ⟨_, ((t378 != t333)), (by first | rfl | (simp; done) | (simp [*]; done)), H', ⟨by have := HJ10.out; have := HJ63.out; first | omega | exact Nat.le_refl _⟩, ⟨by (try simp only [hl342000_63]); (try simp only [hl342001_63]); (with_reducible repeat (first | apply Kd.R_alloc | apply Kd.R_drewN | apply Kd.R_drew)); exact Kd.R_mono HO_335000.out (fun _ hk => ⟨hk.1.1.1, ⟨hk.1.1.2, hk.2⟩⟩)⟩, ⟨by (try simp only [hl342000_63]); (try simp only [hl342001_63]); (with_reducible repeat (first | apply Kd.R_alloc | apply Kd.R_drewN | apply Kd.R_drew)); exact Kd.R_mono HO_335001.out (fun _ hk => ⟨hk.1.1.1, ⟨hk.1.1.2, hk.2⟩⟩)⟩, ⟨by (try simp only [hl342000_63]); (try simp only [hl342001_63]); (with_reducible repeat (first | apply Kd.R_alloc | apply Kd.R_drewN | apply Kd.R_drew)); exact Kd.R_mono HO_342000.out (fun _ hk => ⟨hk.1.1.1, ⟨hk.1.1.2, hk.2⟩⟩)⟩, ⟨by (try simp only [hl342000_63]); (try simp only [hl342001_63]); (with_reducible repeat (first | apply Kd.R_alloc | apply Kd.R_drewN | apply Kd.R_drew)); exact Kd.R_mono HO_342001.out (fun _ hk => ⟨hk.1.1.1, ⟨hk.1.1.2, hk.2⟩⟩)⟩, ⟨by (try simp only [hl342000_63]); (try simp only [hl342001_63]); (with_reducible repeat (first | apply Kd.R_alloc | apply Kd.R_drewN | apply Kd.R_drew)); exact Kd.R_mono HO_350000.out (fun _ hk => ⟨hk.1.1.1, ⟨hk.1.1.2, hk.2⟩⟩)⟩, ⟨by (try simp only [hl342000_63]); (try simp only [hl342001_63]); (with_reducible repeat (first | apply Kd.R_alloc | apply Kd.R_drewN | apply Kd.R_drew)); exact Kd.R_mono HO_350001.out (fun _ hk => ⟨hk.1.1.1, ⟨hk.1.1.2, hk.2⟩⟩)⟩, ⟨by (try simp only [hl342000_63]); (try simp only [hl342001_63]); (with_reducible repeat (first | apply Kd.R_alloc | apply Kd.R_drewN | apply Kd.R_drew)); exact Kd.R_mono HO374.out (fun _ hk => ⟨hk.1.1.1.2, ⟨hk.1.1.2, hk.1.2⟩⟩)⟩, ⟨by (try simp only [hl342000_63]); (try simp only [hl342001_63]); (with_reducible repeat (first | apply Kd.R_alloc | apply Kd.R_drewN | apply Kd.R_drew)); exact Kd.R_mono HO377.out (fun _ hk => ⟨hk.1.1.1.2, ⟨hk.1.1.2, hk.1.2⟩⟩)⟩, ⟨by (try simp only [hl342000_63]); (try simp only [hl342001_63]); (with_reducible repeat (first | refine blk_drewN ?_ _ | refine blk_drew ?_ | refine blk_alloc ?_ _)); exact BK319.out⟩, ⟨by (try simp only [hl342000_63]); (try simp only [hl342001_63]); (with_reducible repeat (first | refine blk_drewN ?_ _ | refine blk_drew ?_ | refine blk_alloc ?_ _)); exact BK334.out⟩, ⟨by (try simp only [hl342000_63]); (try simp only [hl342001_63]); (with_reducible repeat (first | refine blk_drewN ?_ _ | refine blk_drew ?_ | refine blk_alloc ?_ _)); exact BK341.out⟩, ⟨by (try simp only [hl342000_63]); (try simp only [hl342001_63]); (with_reducible repeat (first | refine blk_drewN ?_ _ | refine blk_drew ?_ | refine blk_alloc ?_ _)); exact BK349.out⟩, ⟨by (try simp only [hl342000_63]); (try simp only [hl342001_63]); (with_reducible repeat (first | refine blk_drewN ?_ _ | refine blk_drew ?_ | refine blk_alloc ?_ _)); exact BK379.out⟩, ⟨by repeat (first | (with_reducible first | exact HB.out | apply below_alloc | apply pw_below_drewN | apply below_drew1 | refine below_set ?_ GE319.out | refine below_set ?_ GE334.out | refine below_set ?_ GE341.out | refine below_set ?_ GE349.out | refine below_set ?_ GE379.out) | exact HB.out)⟩⟩
                        · replace c132 := Bool.eq_false_iff.mpr c132
                          subst c132
                          have H1 : (laws_FnExactPlainSystem.j2 kj63 t362 true t363 t364) = some true := by rw [if_neg (show ¬ (false = true) by decide)] at H; exact H
                          clear H
                          have H := H1
                          clear H1
                          have H' := Aside0.mk H
                          clear H
                          have hnb143 := NB379_319.out
                          have hnc143 := NB319_379.out
                          have hnb144 := NB379_334.out
                          have hnc144 := NB334_379.out
                          have hnb145 := NB379_341.out
                          have hnc145 := NB341_379.out
                          have hnb146 := NB379_349.out
                          have hnc146 := NB349_379.out
                          have hcz147_0 : w123.cell? ⟨gb379, 0, none⟩ = some (.slice none 0 0) := (blk_cell BK379.out 0).trans rfl
                          have hcz147_1 : w123.cell? ⟨gb379, 1, none⟩ = some (.slice none 0 0) := (blk_cell BK379.out 1).trans rfl
                          have hfz147_0 := blk_frozen BK379.out 0
                          have hfz147_1 := blk_frozen BK379.out 1
                          have hnb148 := NB334_319.out
                          have hnc148 := NB319_334.out
                          have hnb149 := NB334_341.out
                          have hnc149 := NB341_334.out
                          have hnb150 := NB334_349.out
                          have hnc150 := NB349_334.out
                          have hcz151_0 : w123.cell? ⟨gb334, 0, none⟩ = some (.slice Ao21 t327.length co21) := (blk_cell BK334.out 0).trans rfl
                          have hcz151_1 : w123.cell? ⟨gb334, 1, none⟩ = some (.slice Ao24 t330.length co24) := (blk_cell BK334.out 1).trans rfl
                          have hfz151_0 := blk_frozen BK334.out 0
                          have hfz151_1 := blk_frozen BK334.out 1
                          go_wp2_with (first | ((with_reducible refine gate_callee (f := 14) rfl ?_); refine goesL_ (some 81) rfl rfl Try.func14 (by kernel_rfl) rfl #[.agg #[.slice Ao124 t372.length co124, .slice Ao130 t375.length co130], .agg #[.slice Ao21 t327.length co21, .slice Ao24 t330.length co24]] rfl (by (try simp only [List.map_toArray, List.map_cons, List.map_nil]); first | done | rfl | (simp only [List.length_drop, List.length_take]; rfl)) ?_; (with_reducible refine (laws_eqSystem.calls kj63 _ _ t372 _ _ t375 _ _ t327 _ _ t330 false _ ?side1 ?side2 ?side3 ?side4 ?side5 ?side6 ?side7 ?side8 A131.out).mono ?_); (case side1 => refine (Kd.R_reads' (e := 58) (base := w.heap.size) (ok := fun k_ => ((((True ∧ some k_ ≠ (.slice Ao21 t327.length co21 : Value).ownBlock) ∧ some k_ ≠ (.slice Ao28 t359.length co28 : Value).ownBlock) ∧ some k_ ≠ (.slice Ao35 t342.length co35 : Value).ownBlock) ∧ some k_ ≠ (.slice Ao120 t366.length co120 : Value).ownBlock)) (n := t372.length) (c := co124) ?_).2.2; exact (by (with_reducible repeat (first | apply Kd.R_alloc | apply Kd.R_drewN | apply Kd.R_drew)); exact (Kd.R_mono (Kd.R_far (p := ⟨gb379, 1, none⟩) (Kd.R_far (p := ⟨gb379, 0, none⟩) (Kd.R_types HO374.out BK379.out (by decide)) (fun _ hk => hk.2) (.slice Ao124 t372.length co124)) (fun _ hk => hk.2) (.slice Ao130 t375.length co130)) (fun _ h_ => h_.1)))); (case side2 => exact (Kd.R_reads' HO374.out).2.1); (case side3 => refine (Kd.R_reads' (e := 59) (base := w.heap.size) (ok := fun k_ => ((((True ∧ some k_ ≠ (.slice Ao24 t330.length co24 : Value).ownBlock) ∧ some k_ ≠ (.slice Ao32 t360.length co32 : Value).ownBlock) ∧ some k_ ≠ (.slice Ao40 t345.length co40 : Value).ownBlock) ∧ some k_ ≠ (.slice Ao121 t369.length co121 : Value).ownBlock)) (n := t375.length) (c := co130) ?_).2.2; exact (by (with_reducible repeat (first | apply Kd.R_alloc | apply Kd.R_drewN | apply Kd.R_drew)); exact (Kd.R_mono (Kd.R_far (p := ⟨gb379, 1, none⟩) (Kd.R_far (p := ⟨gb379, 0, none⟩) (Kd.R_types HO377.out BK379.out (by decide)) (fun _ hk => hk.2) (.slice Ao124 t372.length co124)) (fun _ hk => hk.2) (.slice Ao130 t375.length co130)) (fun _ h_ => h_.1)))); (case side4 => exact (Kd.R_reads' HO377.out).2.1); (case side5 => refine (Kd.R_reads' (e := 58) (base := w.heap.size) (ok := fun k_ => (((some k_ ≠ (.slice Ao28 t359.length co28 : Value).ownBlock ∧ some k_ ≠ (.slice Ao35 t342.length co35 : Value).ownBlock) ∧ some k_ ≠ (.slice Ao120 t366.length co120 : Value).ownBlock) ∧ some k_ ≠ (.slice Ao124 t372.length co124 : Value).ownBlock)) (n := t327.length) (c := co21) ?_).2.2; exact (by (with_reducible repeat (first | apply Kd.R_alloc | apply Kd.R_drewN | apply Kd.R_drew)); exact (Kd.R_mono (Kd.R_far (p := ⟨gb379, 1, none⟩) (Kd.R_far (p := ⟨gb379, 0, none⟩) (Kd.R_types HO_335000.out BK379.out (by decide)) (fun _ hk => hk.2) (.slice Ao124 t372.length co124)) (fun _ hk => hk.2) (.slice Ao130 t375.length co130)) (fun _ h_ => h_.1)))); (case side6 => exact (Kd.R_reads' HO_335000.out).2.1); (case side7 => refine (Kd.R_reads' (e := 59) (base := w.heap.size) (ok := fun k_ => (((some k_ ≠ (.slice Ao32 t360.length co32 : Value).ownBlock ∧ some k_ ≠ (.slice Ao40 t345.length co40 : Value).ownBlock) ∧ some k_ ≠ (.slice Ao121 t369.length co121 : Value).ownBlock) ∧ some k_ ≠ (.slice Ao130 t375.length co130 : Value).ownBlock)) (n := t330.length) (c := co24) ?_).2.2; exact (by (with_reducible repeat (first | apply Kd.R_alloc | apply Kd.R_drewN | apply Kd.R_drew)); exact (Kd.R_mono (Kd.R_far (p := ⟨gb379, 1, none⟩) (Kd.R_far (p := ⟨gb379, 0, none⟩) (Kd.R_types HO_335001.out BK379.out (by decide)) (fun _ hk => hk.2) (.slice Ao124 t372.length co124)) (fun _ hk => hk.2) (.slice Ao130 t375.length co130)) (fun _ h_ => h_.1)))); (case side8 => exact (Kd.R_reads' HO_335001.out).2.1); rintro e w152 ⟨rfl, hb⟩; refine ⟨_, rfl, ?_⟩; have n0_ := Aside0.mk (Kd.R_below (by (with_reducible repeat (first | apply Kd.R_alloc | apply Kd.R_drewN | apply Kd.R_drew)); exact (Kd.R_mono (Kd.R_far (p := ⟨gb379, 1, none⟩) (Kd.R_far (p := ⟨gb379, 0, none⟩) (Kd.R_types HO_335000.out BK379.out (by decide)) (fun _ hk => hk.2) (.slice Ao124 t372.length co124)) (fun _ hk => hk.2) (.slice Ao130 t375.length co130)) (fun _ h_ => h_.1))) hb); have n1_ := Aside0.mk (Kd.R_below (by (with_reducible repeat (first | apply Kd.R_alloc | apply Kd.R_drewN | apply Kd.R_drew)); exact (Kd.R_mono (Kd.R_far (p := ⟨gb379, 1, none⟩) (Kd.R_far (p := ⟨gb379, 0, none⟩) (Kd.R_types HO_335001.out BK379.out (by decide)) (fun _ hk => hk.2) (.slice Ao124 t372.length co124)) (fun _ hk => hk.2) (.slice Ao130 t375.length co130)) (fun _ h_ => h_.1))) hb); have n2_ := Aside0.mk (Kd.R_below (by (with_reducible repeat (first | apply Kd.R_alloc | apply Kd.R_drewN | apply Kd.R_drew)); exact (Kd.R_mono (Kd.R_far (p := ⟨gb379, 1, none⟩) (Kd.R_far (p := ⟨gb379, 0, none⟩) (Kd.R_types HO_342000.out BK379.out (by decide)) (fun _ hk => hk.2) (.slice Ao124 t372.length co124)) (fun _ hk => hk.2) (.slice Ao130 t375.length co130)) (fun _ h_ => h_.1))) hb); have n3_ := Aside0.mk (Kd.R_below (by (with_reducible repeat (first | apply Kd.R_alloc | apply Kd.R_drewN | apply Kd.R_drew)); exact (Kd.R_mono (Kd.R_far (p := ⟨gb379, 1, none⟩) (Kd.R_far (p := ⟨gb379, 0, none⟩) (Kd.R_types HO_342001.out BK379.out (by decide)) (fun _ hk => hk.2) (.slice Ao124 t372.length co124)) (fun _ hk => hk.2) (.slice Ao130 t375.length co130)) (fun _ h_ => h_.1))) hb); have n4_ := Aside0.mk (Kd.R_below (by (with_reducible repeat (first | apply Kd.R_alloc | apply Kd.R_drewN | apply Kd.R_drew)); exact (Kd.R_mono (Kd.R_far (p := ⟨gb379, 1, none⟩) (Kd.R_far (p := ⟨gb379, 0, none⟩) (Kd.R_types HO_350000.out BK379.out (by decide)) (fun _ hk => hk.2) (.slice Ao124 t372.length co124)) (fun _ hk => hk.2) (.slice Ao130 t375.length co130)) (fun _ h_ => h_.1))) hb); have n5_ := Aside0.mk (Kd.R_below (by (with_reducible repeat (first | apply Kd.R_alloc | apply Kd.R_drewN | apply Kd.R_drew)); exact (Kd.R_mono (Kd.R_far (p := ⟨gb379, 1, none⟩) (Kd.R_far (p := ⟨gb379, 0, none⟩) (Kd.R_types HO_350001.out BK379.out (by decide)) (fun _ hk => hk.2) (.slice Ao124 t372.length co124)) (fun _ hk => hk.2) (.slice Ao130 t375.length co130)) (fun _ h_ => h_.1))) hb); have n6_ := Aside0.mk (Kd.R_below (by (with_reducible repeat (first | apply Kd.R_alloc | apply Kd.R_drewN | apply Kd.R_drew)); exact (Kd.R_mono (Kd.R_far (p := ⟨gb379, 1, none⟩) (Kd.R_far (p := ⟨gb379, 0, none⟩) (Kd.R_types HO368.out BK379.out (by decide)) (fun _ hk => hk.2) (.slice Ao124 t372.length co124)) (fun _ hk => hk.2) (.slice Ao130 t375.length co130)) (fun _ h_ => h_.1))) hb); have n7_ := Aside0.mk (Kd.R_below (by (with_reducible repeat (first | apply Kd.R_alloc | apply Kd.R_drewN | apply Kd.R_drew)); exact (Kd.R_mono (Kd.R_far (p := ⟨gb379, 1, none⟩) (Kd.R_far (p := ⟨gb379, 0, none⟩) (Kd.R_types HO371.out BK379.out (by decide)) (fun _ hk => hk.2) (.slice Ao124 t372.length co124)) (fun _ hk => hk.2) (.slice Ao130 t375.length co130)) (fun _ h_ => h_.1))) hb); have n8_ := Aside0.mk (Kd.R_below (by (with_reducible repeat (first | apply Kd.R_alloc | apply Kd.R_drewN | apply Kd.R_drew)); exact (Kd.R_mono (Kd.R_far (p := ⟨gb379, 1, none⟩) (Kd.R_far (p := ⟨gb379, 0, none⟩) (Kd.R_types HO374.out BK379.out (by decide)) (fun _ hk => hk.2) (.slice Ao124 t372.length co124)) (fun _ hk => hk.2) (.slice Ao130 t375.length co130)) (fun _ h_ => h_.1))) hb); have n9_ := Aside0.mk (Kd.R_below (by (with_reducible repeat (first | apply Kd.R_alloc | apply Kd.R_drewN | apply Kd.R_drew)); exact (Kd.R_mono (Kd.R_far (p := ⟨gb379, 1, none⟩) (Kd.R_far (p := ⟨gb379, 0, none⟩) (Kd.R_types HO377.out BK379.out (by decide)) (fun _ hk => hk.2) (.slice Ao124 t372.length co124)) (fun _ hk => hk.2) (.slice Ao130 t375.length co130)) (fun _ h_ => h_.1))) hb); have n10_ := Aside0.mk (blk_below (g := gb319) (o := .cells #[.slice A0_0 l0_0.length c0_0, .slice A0_1 l0_1.length c0_1] 32 (0, 0)) (by (with_reducible repeat (first | refine blk_drewN ?_ _ | refine blk_drew ?_ | refine blk_alloc ?_ _)); refine blk_far ?_ NB319_379.out _; (with_reducible repeat (first | refine blk_drewN ?_ _ | refine blk_drew ?_ | refine blk_alloc ?_ _)); refine blk_far ?_ NB319_379.out _; (with_reducible repeat (first | refine blk_drewN ?_ _ | refine blk_drew ?_ | refine blk_alloc ?_ _)); exact BK319.out) hb); have n11_ := Aside0.mk (blk_below (g := gb334) (o := .cells #[.slice Ao21 t327.length co21, .slice Ao24 t330.length co24] 25 (0, 0)) (by (with_reducible repeat (first | refine blk_drewN ?_ _ | refine blk_drew ?_ | refine blk_alloc ?_ _)); refine blk_far ?_ NB334_379.out _; (with_reducible repeat (first | refine blk_drewN ?_ _ | refine blk_drew ?_ | refine blk_alloc ?_ _)); refine blk_far ?_ NB334_379.out _; (with_reducible repeat (first | refine blk_drewN ?_ _ | refine blk_drew ?_ | refine blk_alloc ?_ _)); exact BK334.out) hb); have n12_ := Aside0.mk (blk_below (g := gb341) (o := .cells #[.slice Ao28 t359.length co28, .slice Ao32 t360.length co32] 25 (0, 0)) (by (with_reducible repeat (first | refine blk_drewN ?_ _ | refine blk_drew ?_ | refine blk_alloc ?_ _)); refine blk_far ?_ NB341_379.out _; (with_reducible repeat (first | refine blk_drewN ?_ _ | refine blk_drew ?_ | refine blk_alloc ?_ _)); refine blk_far ?_ NB341_379.out _; (with_reducible repeat (first | refine blk_drewN ?_ _ | refine blk_drew ?_ | refine blk_alloc ?_ _)); exact BK341.out) hb); have n13_ := Aside0.mk (blk_below (g := gb349) (o := .cells #[.slice Ao35 t342.length co35, .slice Ao40 t345.length co40] 25 (0, 0)) (by (with_reducible repeat (first | refine blk_drewN ?_ _ | refine blk_drew ?_ | refine blk_alloc ?_ _)); refine blk_far ?_ NB349_379.out _; (with_reducible repeat (first | refine blk_drewN ?_ _ | refine blk_drew ?_ | refine blk_alloc ?_ _)); refine blk_far ?_ NB349_379.out _; (with_reducible repeat (first | refine blk_drewN ?_ _ | refine blk_drew ?_ | refine blk_alloc ?_ _)); exact BK349.out) hb); have n14_ := Aside0.mk (blk_below (g := gb379) (o := .cells #[.slice Ao124 t372.length co124, .slice Ao130 t375.length co130] 25 (0, 0)) (by (with_reducible repeat (first | refine blk_drewN ?_ _ | refine blk_drew ?_ | refine blk_alloc ?_ _)); refine blk_put (cs := #[.slice Ao124 t372.length co124, .slice none 0 0]) ?_ 1 _ rfl; (with_reducible repeat (first | refine blk_drewN ?_ _ | refine blk_drew ?_ | refine blk_alloc ?_ _)); refine blk_put (cs := #[.slice none 0 0, .slice none 0 0]) ?_ 0 _ rfl; (with_reducible repeat (first | refine blk_drewN ?_ _ | refine blk_drew ?_ | refine blk_alloc ?_ _)); exact BK379.out) hb); have n15_ := Aside0.mk (below_step (by repeat (first | (with_reducible first | exact HB.out | apply below_alloc | apply pw_below_drewN | apply below_drew1 | refine below_set ?_ GE319.out | refine below_set ?_ GE334.out | refine below_set ?_ GE341.out | refine below_set ?_ GE349.out | refine below_set ?_ GE379.out) | exact HB.out)) hb); clear HO_335000; clear HO_335001; clear HO_342000; clear HO_342001; clear HO_350000; clear HO_350001; clear HO368; clear HO371; clear HO374; clear HO377; clear BK319; clear BK334; clear BK341; clear BK349; clear BK379; clear HB; have HO_335000 := n0_; have HO_335001 := n1_; have HO_342000 := n2_; have HO_342001 := n3_; have HO_350000 := n4_; have HO_350001 := n5_; have HO368 := n6_; have HO371 := n7_; have HO374 := n8_; have HO377 := n9_; have BK319 := n10_; have BK334 := n11_; have BK341 := n12_; have BK349 := n13_; have BK379 := n14_; have HB := n15_; clear n0_ n1_ n2_ n3_ n4_ n5_ n6_ n7_ n8_ n9_ n10_ n11_ n12_ n13_ n14_ n15_; (try clear hb); (try clear hb2); (try clear hk); (try clear hi)))
                          go_meet
                          case rel => exact ⟨_, (true), (by first | rfl | (simp; done) | (simp [*]; done)), H', ⟨by have := HJ10.out; have := HJ63.out; first | omega | exact Nat.le_refl _⟩, ⟨by (try simp only [hl342000_63]); (try simp only [hl342001_63]); (with_reducible repeat (first | apply Kd.R_alloc | apply Kd.R_drewN | apply Kd.R_drew)); exact Kd.R_mono HO_335000.out (fun _ hk => ⟨hk.1.1.1, ⟨hk.1.1.2, hk.2⟩⟩)⟩, ⟨by (try simp only [hl342000_63]); (try simp only [hl342001_63]); (with_reducible repeat (first | apply Kd.R_alloc | apply Kd.R_drewN | apply Kd.R_drew)); exact Kd.R_mono HO_335001.out (fun _ hk => ⟨hk.1.1.1, ⟨hk.1.1.2, hk.2⟩⟩)⟩, ⟨by (try simp only [hl342000_63]); (try simp only [hl342001_63]); (with_reducible repeat (first | apply Kd.R_alloc | apply Kd.R_drewN | apply Kd.R_drew)); exact Kd.R_mono HO_342000.out (fun _ hk => ⟨hk.1.1.1, ⟨hk.1.1.2, hk.2⟩⟩)⟩, ⟨by (try simp only [hl342000_63]); (try simp only [hl342001_63]); (with_reducible repeat (first | apply Kd.R_alloc | apply Kd.R_drewN | apply Kd.R_drew)); exact Kd.R_mono HO_342001.out (fun _ hk => ⟨hk.1.1.1, ⟨hk.1.1.2, hk.2⟩⟩)⟩, ⟨by (try simp only [hl342000_63]); (try simp only [hl342001_63]); (with_reducible repeat (first | apply Kd.R_alloc | apply Kd.R_drewN | apply Kd.R_drew)); exact Kd.R_mono HO_350000.out (fun _ hk => ⟨hk.1.1.1, ⟨hk.1.1.2, hk.2⟩⟩)⟩, ⟨by (try simp only [hl342000_63]); (try simp only [hl342001_63]); (with_reducible repeat (first | apply Kd.R_alloc | apply Kd.R_drewN | apply Kd.R_drew)); exact Kd.R_mono HO_350001.out (fun _ hk => ⟨hk.1.1.1, ⟨hk.1.1.2, hk.2⟩⟩)⟩, ⟨by (try simp only [hl342000_63]); (try simp only [hl342001_63]); (with_reducible repeat (first | apply Kd.R_alloc | apply Kd.R_drewN | apply Kd.R_drew)); exact Kd.R_mono HO374.out (fun _ hk => ⟨hk.1.1.1.2, ⟨hk.1.1.2, hk.1.2⟩⟩)⟩, ⟨by (try simp only [hl342000_63]); (try simp only [hl342001_63]); (with_reducible repeat (first | apply Kd.R_alloc | apply Kd.R_drewN | apply Kd.R_drew)); exact Kd.R_mono HO377.out (fun _ hk => ⟨hk.1.1.1.2, ⟨hk.1.1.2, hk.1.2⟩⟩)⟩, ⟨by (try simp only [hl342000_63]); (try simp only [hl342001_63]); (with_reducible repeat (first | refine blk_drewN ?_ _ | refine blk_drew ?_ | refine blk_alloc ?_ _)); exact BK319.out⟩, ⟨by (try simp only [hl342000_63]); (try simp only [hl342001_63]); (with_reducible repeat (first | refine blk_drewN ?_ _ | refine blk_drew ?_ | refine blk_alloc ?_ _)); exact BK334.out⟩, ⟨by (try simp only [hl342000_63]); (try simp only [hl342001_63]); (with_reducible repeat (first | refine blk_drewN ?_ _ | refine blk_drew ?_ | refine blk_alloc ?_ _)); exact BK341.out⟩, ⟨by (try simp only [hl342000_63]); (try simp only [hl342001_63]); (with_reducible repeat (first | refine blk_drewN ?_ _ | refine blk_drew ?_ | refine blk_alloc ?_ _)); exact BK349.out⟩, ⟨by (try simp only [hl342000_63]); (try simp only [hl342001_63]); (with_reducible repeat (first | refine blk_drewN ?_ _ | refine blk_drew ?_ | refine blk_alloc ?_ _)); exact BK379.out⟩, ⟨by repeat (first | (with_reducible first | exact HB.out | apply below_alloc | apply pw_below_drewN | apply below_drew1 | refine below_set ?_ GE319.out | refine below_set ?_ GE334.out | refine below_set ?_ GE341.out | refine below_set ?_ GE349.out | refine below_set ?_ GE379.out) | exact HB.out)⟩⟩
                      case rest =>
                        clear HC108
                        try clear c1
                        try clear c2
                        try clear p2
                        try clear c3
                        try clear c3b0
                        try clear c4
                        try clear c5
                        try clear c6
                        try clear c7
                        try clear c8
                        try clear c9
                        try clear c10
                        try clear c11
                        try clear c12
                        try clear c13
                        try clear c14
                        try clear c15
                        try clear c16
                        try clear c17
                        try clear c19
                        try clear c22
                        try clear c23
                        try clear c24
                        try clear c29
                        try clear c30
                        try clear c36
                        try clear c37
                        try clear c38
                        try clear c42
                        try clear c43
                        try clear c44
                        try clear c45
                        try clear c47
                        try clear c48
                        try clear c51
                        try clear c52
                        try clear c53
                        try clear c55
                        try clear c56
                        try clear c59
                        try clear c62
                        try clear c70
                        try clear c71
                        try clear c72
                        try clear c75
                        try clear c75b0
                        try clear c77
                        try clear c78
                        try clear c79
                        try clear c80
                        try clear c82
                        try clear c83
                        try clear c86
                        try clear c87
                        try clear c88
                        try clear c90
                        try clear c91
                        try clear c94
                        try clear c97
                        try clear c97b0
                        try clear c98
                        try clear c99
                        try clear c100
                        try clear c105
                        try clear c105b0
                        try clear c105b1
                        try clear c109
                        try clear c110
                        try clear c111
                        try clear c116
                        try clear c117
                        try clear c125
                        try clear c126
                        try clear c127
                        try clear c128
                        try clear c132
                        try clear c133
                        try clear c134
                        try clear c135
                        try clear c136
                        try clear c138
                        try clear c139
                        try clear c140
                        try clear c143
                        try clear c144
                        try clear c145
                        try clear c146
                        try clear c148
                        try clear c149
                        try clear c150
                        try clear hcz101_0
                        try clear hcz101_1
                        try clear hcz103_0
                        try clear hcz103_1
                        try clear hcz112_0
                        try clear hcz112_1
                        try clear hcz114_0
                        try clear hcz114_1
                        try clear hcz118_0
                        try clear hcz118_1
                        try clear hcz129_0
                        try clear hcz129_1
                        try clear hcz137_0
                        try clear hcz137_1
                        try clear hcz13_0
                        try clear hcz13_1
                        try clear hcz141_0
                        try clear hcz141_1
                        try clear hcz147_0
                        try clear hcz147_1
                        try clear hcz151_0
                        try clear hcz151_1
                        try clear hcz15_0
                        try clear hcz15_1
                        try clear hcz23_0
                        try clear hcz23_1
                        try clear hcz25_0
                        try clear hcz25_1
                        try clear hcz31_0
                        try clear hcz31_1
                        try clear hcz39_0
                        try clear hcz39_1
                        try clear hcz46_0
                        try clear hcz46_1
                        try clear hcz49_0
                        try clear hcz49_1
                        try clear hcz54_0
                        try clear hcz54_1
                        try clear hcz57_0
                        try clear hcz57_1
                        try clear hcz5_0
                        try clear hcz5_1
                        try clear hcz73_0
                        try clear hcz73_1
                        try clear hcz81_0
                        try clear hcz81_1
                        try clear hcz84_0
                        try clear hcz84_1
                        try clear hcz89_0
                        try clear hcz89_1
                        try clear hcz92_0
                        try clear hcz92_1
                        try clear hfz101_0
                        try clear hfz101_1
                        try clear hfz103_0
                        try clear hfz103_1
                        try clear hfz112_0
                        try clear hfz112_1
                        try clear hfz114_0
                        try clear hfz114_1
                        try clear hfz118_0
                        try clear hfz118_1
                        try clear hfz129_0
                        try clear hfz129_1
                        try clear hfz137_0
                        try clear hfz137_1
                        try clear hfz13_0
                        try clear hfz13_1
                        try clear hfz141_0
                        try clear hfz141_1
                        try clear hfz147_0
                        try clear hfz147_1
                        try clear hfz151_0
                        try clear hfz151_1
                        try clear hfz15_0
                        try clear hfz15_1
                        try clear hfz23_0
                        try clear hfz23_1
                        try clear hfz25_0
                        try clear hfz25_1
                        try clear hfz31_0
                        try clear hfz31_1
                        try clear hfz39_0
                        try clear hfz39_1
                        try clear hfz46_0
                        try clear hfz46_1
                        try clear hfz49_0
                        try clear hfz49_1
                        try clear hfz54_0
                        try clear hfz54_1
                        try clear hfz57_0
                        try clear hfz57_1
                        try clear hfz5_0
                        try clear hfz5_1
                        try clear hfz73_0
                        try clear hfz73_1
                        try clear hfz81_0
                        try clear hfz81_1
                        try clear hfz84_0
                        try clear hfz84_1
                        try clear hfz89_0
                        try clear hfz89_1
                        try clear hfz92_0
                        try clear hfz92_1
                        try clear p2
                        obtain ⟨kq, x87_107, rfl, HA, HJ107, HO_335000, HO_335001, HO_342000, HO_342001, HO_350000, HO_350001, HO_380000, HO_380001, BK319, BK334, BK341, BK349, BK379, HB⟩ := hcut
                        have hl350000_107 := (Kd.R_reads' HO_350000.out).1
                        rw [hl350000_107] at HO_350000
                        (try simp only [hl350000_107])
                        (try simp only [hl350000_107] at BK319)
                        (try simp only [hl350000_107] at BK334)
                        (try simp only [hl350000_107] at BK341)
                        (try simp only [hl350000_107] at BK349)
                        (try simp only [hl350000_107] at BK379)
                        (try simp only [hl350000_107] at HO_335000)
                        (try simp only [hl350000_107] at HO_335001)
                        (try simp only [hl350000_107] at HO_342000)
                        (try simp only [hl350000_107] at HO_342001)
                        (try simp only [hl350000_107] at HO_350001)
                        (try simp only [hl350000_107] at HO_380000)
                        (try simp only [hl350000_107] at HO_380001)
                        have hl350001_107 := (Kd.R_reads' HO_350001.out).1
                        rw [hl350001_107] at HO_350001
                        (try simp only [hl350001_107])
                        (try simp only [hl350001_107] at BK319)
                        (try simp only [hl350001_107] at BK334)
                        (try simp only [hl350001_107] at BK341)
                        (try simp only [hl350001_107] at BK349)
                        (try simp only [hl350001_107] at BK379)
                        (try simp only [hl350001_107] at HO_335000)
                        (try simp only [hl350001_107] at HO_335001)
                        (try simp only [hl350001_107] at HO_342000)
                        (try simp only [hl350001_107] at HO_342001)
                        (try simp only [hl350001_107] at HO_350000)
                        (try simp only [hl350001_107] at HO_380000)
                        (try simp only [hl350001_107] at HO_380001)
                        cases kq with
                        | zero => exact absurd HA.out (by simp [laws_FnExactPlainSystem.j2])
                        | succ kj107 =>
                          have H := HA.out
                          clear HA
                          simp only [laws_FnExactPlainSystem.j2] at H
                          by_cases c153 : x87_107 = true
                          · subst c153
                            have H1 : (some false) = some true := by rw [if_pos rfl] at H; exact H
                            clear H
                            have H := H1
                            clear H1
                            exact absurd H (by simp)
                          · replace c153 := Bool.eq_false_iff.mpr c153
                            subst c153
                            have H1 : ((laws_heldSystem.f kj107 t363 t364 1).bind fun t381 => (if t381 < 0 then (some false) else (if t381 = t362 then (some true) else (some false)))) = some true := by rw [if_neg (show ¬ (false = true) by decide)] at H; exact H
                            clear H
                            have H := H1
                            clear H1
                            replace H := Option.bind_eq_some_iff.mp H
                            obtain ⟨t381, A1540, H⟩ := H
                            replace H : (if t381 < 0 then (some false) else (if t381 = t362 then (some true) else (some false))) = some true := H
                            have A154 := Aside0.mk A1540
                            clear A1540
                            by_cases c155 : t381 < 0
                            · rw [if_pos c155] at H
                              have c155b0 : decide (t381 < 0) = true := decide_eq_true c155
                              clear c155
                              exact absurd H (by simp)
                            · rw [if_neg c155] at H
                              have c155b0 : decide (t381 < 0) = false := decide_eq_false c155
                              clear c155
                              by_cases c162 : t381 = t362
                              · rw [if_pos c162] at H
                                have c162b0 : (t381 == t362) = true := beq_iff_eq.mpr c162
                                have c162b1 : (t381 != t362) = false := bne_eq_false_iff_eq.mpr c162
                                clear c162
                                clear H
                                have hnb163 := NB349_319.out
                                have hnc163 := NB319_349.out
                                have hnb164 := NB349_334.out
                                have hnc164 := NB334_349.out
                                have hnb165 := NB349_341.out
                                have hnc165 := NB341_349.out
                                have hnb166 := NB349_379.out
                                have hnc166 := NB379_349.out
                                have hcz167_0 : wc.cell? ⟨gb349, 0, none⟩ = some (.slice Ao35 t363.length co35) := (blk_cell BK349.out 0).trans rfl
                                have hcz167_1 : wc.cell? ⟨gb349, 1, none⟩ = some (.slice Ao40 t364.length co40) := (blk_cell BK349.out 1).trans rfl
                                have hfz167_0 := blk_frozen BK349.out 0
                                have hfz167_1 := blk_frozen BK349.out 1
                                go_wp2_with (first | ((with_reducible refine gate_callee (f := 16) rfl ?_); refine goesL_ (some 90) rfl rfl Try.func16 (by kernel_rfl) rfl #[.agg #[.slice Ao35 t363.length co35, .slice Ao40 t364.length co40], .int .i64 1] rfl (by (try simp only [List.map_toArray, List.map_cons, List.map_nil]); first | done | rfl | (simp only [List.length_drop, List.length_take]; rfl)) ?_; (with_reducible refine (laws_heldSystem.calls kj107 _ _ t363 _ _ t364 1 t381 _ ?side1 ?side2 ?side3 ?side4 A154.out).mono ?_); (case side1 => repeat (first | exact (Kd.R_reads' HO_350000.out).2.2 | (with_reducible refine Kd.C_alloc ?_ _) | (with_reducible refine Kd.C_drewN ?_ _) | (with_reducible refine Kd.C_drew ?_))); (case side2 => exact (Kd.R_reads' HO_350000.out).2.1); (case side3 => repeat (first | exact (Kd.R_reads' HO_350001.out).2.2 | (with_reducible refine Kd.C_alloc ?_ _) | (with_reducible refine Kd.C_drewN ?_ _) | (with_reducible refine Kd.C_drew ?_))); (case side4 => exact (Kd.R_reads' HO_350001.out).2.1); rintro e w168 ⟨rfl, hb⟩; refine ⟨_, rfl, ?_⟩; have n0_ := Aside0.mk (Kd.R_below (by (with_reducible repeat (first | apply Kd.R_alloc | apply Kd.R_drewN | apply Kd.R_drew)); exact HO_335000.out) hb); have n1_ := Aside0.mk (Kd.R_below (by (with_reducible repeat (first | apply Kd.R_alloc | apply Kd.R_drewN | apply Kd.R_drew)); exact HO_335001.out) hb); have n2_ := Aside0.mk (Kd.R_below (by (with_reducible repeat (first | apply Kd.R_alloc | apply Kd.R_drewN | apply Kd.R_drew)); exact HO_342000.out) hb); have n3_ := Aside0.mk (Kd.R_below (by (with_reducible repeat (first | apply Kd.R_alloc | apply Kd.R_drewN | apply Kd.R_drew)); exact HO_342001.out) hb); have n4_ := Aside0.mk (Kd.R_below (by (with_reducible repeat (first | apply Kd.R_alloc | apply Kd.R_drewN | apply Kd.R_drew)); exact HO_350000.out) hb); have n5_ := Aside0.mk (Kd.R_below (by (with_reducible repeat (first | apply Kd.R_alloc | apply Kd.R_drewN | apply Kd.R_drew)); exact HO_350001.out) hb); have n6_ := Aside0.mk (Kd.R_below (by (with_reducible repeat (first | apply Kd.R_alloc | apply Kd.R_drewN | apply Kd.R_drew)); exact HO_380000.out) hb); have n7_ := Aside0.mk (Kd.R_below (by (with_reducible repeat (first | apply Kd.R_alloc | apply Kd.R_drewN | apply Kd.R_drew)); exact HO_380001.out) hb); have n8_ := Aside0.mk (blk_below (g := gb319) (o := .cells #[.slice A0_0 l0_0.length c0_0, .slice A0_1 l0_1.length c0_1] 32 (0, 0)) (by (with_reducible repeat (first | refine blk_drewN ?_ _ | refine blk_drew ?_ | refine blk_alloc ?_ _)); exact BK319.out) hb); have n9_ := Aside0.mk (blk_below (g := gb334) (o := .cells #[.slice Ao21 t327.length co21, .slice Ao24 t330.length co24] 25 (0, 0)) (by (with_reducible repeat (first | refine blk_drewN ?_ _ | refine blk_drew ?_ | refine blk_alloc ?_ _)); exact BK334.out) hb); have n10_ := Aside0.mk (blk_below (g := gb341) (o := .cells #[.slice Ao28 t359.length co28, .slice Ao32 t360.length co32] 25 (0, 0)) (by (with_reducible repeat (first | refine blk_drewN ?_ _ | refine blk_drew ?_ | refine blk_alloc ?_ _)); exact BK341.out) hb); have n11_ := Aside0.mk (blk_below (g := gb349) (o := .cells #[.slice Ao35 t363.length co35, .slice Ao40 t364.length co40] 25 (0, 0)) (by (with_reducible repeat (first | refine blk_drewN ?_ _ | refine blk_drew ?_ | refine blk_alloc ?_ _)); exact BK349.out) hb); have n12_ := Aside0.mk (blk_below (g := gb379) (o := .cells #[.slice Ao124 t372.length co124, .slice Ao130 t375.length co130] 25 (0, 0)) (by (with_reducible repeat (first | refine blk_drewN ?_ _ | refine blk_drew ?_ | refine blk_alloc ?_ _)); exact BK379.out) hb); have n13_ := Aside0.mk (below_step (by repeat (first | (with_reducible first | exact HB.out | apply below_alloc | apply pw_below_drewN | apply below_drew1 | refine below_set ?_ GE319.out | refine below_set ?_ GE334.out | refine below_set ?_ GE341.out | refine below_set ?_ GE349.out | refine below_set ?_ GE379.out) | exact HB.out)) hb); clear HO_335000; clear HO_335001; clear HO_342000; clear HO_342001; clear HO_350000; clear HO_350001; clear HO_380000; clear HO_380001; clear BK319; clear BK334; clear BK341; clear BK349; clear BK379; clear HB; have HO_335000 := n0_; have HO_335001 := n1_; have HO_342000 := n2_; have HO_342001 := n3_; have HO_350000 := n4_; have HO_350001 := n5_; have HO_380000 := n6_; have HO_380001 := n7_; have BK319 := n8_; have BK334 := n9_; have BK341 := n10_; have BK349 := n11_; have BK379 := n12_; have HB := n13_; clear n0_ n1_ n2_ n3_ n4_ n5_ n6_ n7_ n8_ n9_ n10_ n11_ n12_ n13_; (try clear hb); (try clear hb2); (try clear hk); (try clear hi)))
                                go_ret
                                exact ⟨by first | rfl | (simp [errW_none, errW_some] <;> rfl) | (simp [*, errW_none, errW_some] <;> rfl), by repeat (first | (with_reducible first | exact HB.out | apply below_alloc | apply pw_below_drewN | apply below_drew1 | refine below_set ?_ GE319.out | refine below_set ?_ GE334.out | refine below_set ?_ GE341.out | refine below_set ?_ GE349.out | refine below_set ?_ GE379.out) | exact HB.out)⟩
                              · rw [if_neg c162] at H
                                have c162b0 : (t381 == t362) = false := beq_eq_false_iff_ne.mpr c162
                                have c162b1 : (t381 != t362) = true := bne_iff_ne.mpr c162
                                exact absurd H (by simp)
                    · rw [if_neg c105] at H
                      have c105b0 : (t365 == t362) = false := beq_eq_false_iff_ne.mpr c105
                      have c105b1 : (t365 != t362) = true := bne_iff_ne.mpr c105
                      exact absurd H (by simp)
          · replace c62 := Bool.eq_false_iff.mpr c62
            subst c62
            have H1 : (some false) = some true := by rw [if_neg (show ¬ (false = true) by decide)] at H; exact H
            clear H
            have H := H1
            clear H1
            exact absurd H (by simp)
end Go.Proofs.Ytcaidohboacokaa.Q
