-- WRITTEN BY A PROGRAM OF THIS SESSION (xprint.py, which runs the kit's printer with changes). Lean checks it.
import Derived.Test.YtdhhnkhgmoblhaaDoorQ0
import Derived.Test.YtdhhnkhgmoblhaaDoorGlobFP
import Derived.Test.YtdhhnkhgmoblhaaDoorQimplReadSystem
import Derived.Test.YtdhhnkhgmoblhaaDoorQLawH
import Derived.Test.YtdhhnkhgmoblhaaDoorQLawM
import Derived.Test.YtdhhnkhgmoblhaaDoorQspecReadSystem
namespace Go.Proofs.YtdhhnkhgmoblhaaDoor.Q
open Go.RowKit Go.Proofs.YtdhhnkhgmoblhaaDoorW.PrintWords Go.Proofs.YtdhhnkhgmoblhaaDoorW.PrintLast Go.Proofs.YtdhhnkhgmoblhaaDoorW.PrintMore
set_option linter.unusedVariables false
set_option linter.unusedSimpArgs false
attribute [local go_sem] max2_int min2_int max_two min_two max_three min_three max_four min_four   -- for this text's walks alone
/-! ### laws_FnExactReadSystem: function 6 -/
mutual
def laws_FnExactReadSystem.j0 : Nat → ByteArray → Int → Bool → List (S56) → List (S59) → List (S56) → List (S59) → Option (Bool)
  | 0, _, _, _, _, _, _, _ => none
  | k + 1, x0, x4, x32, x567000, x567001, x575000, x575001 => if x32 = true then (some false) else ((laws_markSystem.f k x575000 x575001 1).bind fun bt576 => ((laws_heldSystem.f k bt576.2.1 bt576.2.2 1).bind fun t579 => (if t579 < 0 then (some false) else (if t579 = bt576.1 then ((impl_ReadSystem.f k x0).bind fun bt580 => ((laws_eqSystem.f k bt580.1 bt580.2.1 x567000 x567001).bind fun t588 => (if t588 = true then (laws_FnExactReadSystem.j1 k bt576.1 (bt580.2.2 != x4) bt576.2.1 bt576.2.2) else (laws_FnExactReadSystem.j1 k bt576.1 true bt576.2.1 bt576.2.2)))) else (some false)))))
def laws_FnExactReadSystem.j1 : Nat → Int → Bool → List (S56) → List (S59) → Option (Bool)
  | 0, _, _, _, _ => none
  | k + 1, x7, x57, x575000, x575001 => if x57 = true then (some false) else ((laws_heldSystem.f k x575000 x575001 1).bind fun t589 => (if t589 < 0 then (some false) else (if t589 = x7 then (some true) else (some false))))
end
def laws_FnExactReadSystem.f (k : Nat) (a0 : ByteArray) : Option (Bool) := if (a0.size : Int) > 1048576 then (some true) else ((spec_ReadSystem.f k a0).bind fun bt559 => ((impl_ReadSystem.f k a0).bind fun bt567 => ((laws_eqSystem.f k bt567.1 bt567.2.1 bt559.1 bt559.2.1).bind fun t575 => (if t575 = true then (laws_FnExactReadSystem.j0 k a0 bt559.2.2 (bt567.2.2 != bt559.2.2) bt559.1 bt559.2.1 bt567.1 bt567.2.1) else (laws_FnExactReadSystem.j0 k a0 bt559.2.2 true bt559.1 bt559.2.1 bt567.1 bt567.2.1)))))
theorem laws_FnExactReadSystem.mono_l : ∀ k, (∀ y0 y1 y2 y3 y4 y5 y6, LeO (laws_FnExactReadSystem.j0 k y0 y1 y2 y3 y4 y5 y6) (laws_FnExactReadSystem.j0 (k + 1) y0 y1 y2 y3 y4 y5 y6)) ∧ (∀ y0 y1 y2 y3, LeO (laws_FnExactReadSystem.j1 k y0 y1 y2 y3) (laws_FnExactReadSystem.j1 (k + 1) y0 y1 y2 y3))
  | 0 => ⟨fun _ _ _ _ _ _ _ r h => by simp [laws_FnExactReadSystem.j0] at h, fun _ _ _ _ r h => by simp [laws_FnExactReadSystem.j1] at h⟩
  | k + 1 => by
    obtain ⟨ih0, ih1⟩ := laws_FnExactReadSystem.mono_l k
    refine ⟨?_, ?_⟩
    · intro y0 y1 y2 y3 y4 y5 y6
      unfold laws_FnExactReadSystem.j0
      repeat' first
      | (with_reducible exact ih0 _ _ _ _ _ _ _)
      | (with_reducible exact ih1 _ _ _ _)
      | (with_reducible exact impl_ReadSystem.mono _ _)
      | (with_reducible exact laws_eqSystem.mono _ _ _ _ _)
      | (with_reducible exact laws_heldSystem.mono _ _ _ _)
      | (with_reducible exact laws_markSystem.mono _ _ _ _)
      | (with_reducible exact spec_ReadSystem.mono _ _)
      | (with_reducible exact LeO.refl _)
      | (with_reducible exact LeO.none _)
      | (with_reducible refine LeO.ite ?_ ?_)
      | (with_reducible refine LeO.bind ?_ (fun _ => ?_))
      | exact ih0 _ _ _ _ _ _ _
      | exact ih1 _ _ _ _
      | exact impl_ReadSystem.mono _ _
      | exact laws_eqSystem.mono _ _ _ _ _
      | exact laws_heldSystem.mono _ _ _ _
      | exact laws_markSystem.mono _ _ _ _
      | exact spec_ReadSystem.mono _ _
      | exact LeO.none _
      | refine LeO.ite ?_ ?_
      | refine LeO.bind ?_ (fun _ => ?_)
    · intro y0 y1 y2 y3
      unfold laws_FnExactReadSystem.j1
      repeat' first
      | (with_reducible exact ih0 _ _ _ _ _ _ _)
      | (with_reducible exact ih1 _ _ _ _)
      | (with_reducible exact impl_ReadSystem.mono _ _)
      | (with_reducible exact laws_eqSystem.mono _ _ _ _ _)
      | (with_reducible exact laws_heldSystem.mono _ _ _ _)
      | (with_reducible exact laws_markSystem.mono _ _ _ _)
      | (with_reducible exact spec_ReadSystem.mono _ _)
      | (with_reducible exact LeO.refl _)
      | (with_reducible exact LeO.none _)
      | (with_reducible refine LeO.ite ?_ ?_)
      | (with_reducible refine LeO.bind ?_ (fun _ => ?_))
      | exact ih0 _ _ _ _ _ _ _
      | exact ih1 _ _ _ _
      | exact impl_ReadSystem.mono _ _
      | exact laws_eqSystem.mono _ _ _ _ _
      | exact laws_heldSystem.mono _ _ _ _
      | exact laws_markSystem.mono _ _ _ _
      | exact spec_ReadSystem.mono _ _
      | exact LeO.none _
      | refine LeO.ite ?_ ?_
      | refine LeO.bind ?_ (fun _ => ?_)
theorem laws_FnExactReadSystem.mono : ∀ a0 k, LeO (laws_FnExactReadSystem.f k a0) (laws_FnExactReadSystem.f (k + 1) a0) := by
  intro a0 k
  obtain ⟨ih0, ih1⟩ := laws_FnExactReadSystem.mono_l k
  unfold laws_FnExactReadSystem.f
  repeat' first
      | (with_reducible exact ih0 _ _ _ _ _ _ _)
      | (with_reducible exact ih1 _ _ _ _)
      | (with_reducible exact impl_ReadSystem.mono _ _)
      | (with_reducible exact laws_eqSystem.mono _ _ _ _ _)
      | (with_reducible exact laws_heldSystem.mono _ _ _ _)
      | (with_reducible exact laws_markSystem.mono _ _ _ _)
      | (with_reducible exact spec_ReadSystem.mono _ _)
      | (with_reducible exact LeO.refl _)
      | (with_reducible exact LeO.none _)
      | (with_reducible refine LeO.ite ?_ ?_)
      | (with_reducible refine LeO.bind ?_ (fun _ => ?_))
      | exact ih0 _ _ _ _ _ _ _
      | exact ih1 _ _ _ _
      | exact impl_ReadSystem.mono _ _
      | exact laws_eqSystem.mono _ _ _ _ _
      | exact laws_heldSystem.mono _ _ _ _
      | exact laws_markSystem.mono _ _ _ _
      | exact spec_ReadSystem.mono _ _
      | exact LeO.none _
      | refine LeO.ite ?_ ?_
      | refine LeO.bind ?_ (fun _ => ?_)
set_option maxHeartbeats 8000000 in
set_option maxRecDepth 100000 in
theorem laws_FnExactReadSystem.calls (k : Nat) (a0 : ByteArray) (_u : Bool) (w : World) (hG_ : GlobFP w) (h : laws_FnExactReadSystem.f k a0 = some true) :
    Calls Tryd.prog 6 #[.string a0] w fun e w' => e = .returned (.bool true) ∧ Below w.heap.size w w' := by
  have hu30 := Tryd.underlying30
  have HB := Aside0.mk (Below.refl w.heap.size w)
  have H : (if (a0.size : Int) > 1048576 then (some true) else ((spec_ReadSystem.f k a0).bind fun bt559 => ((impl_ReadSystem.f k a0).bind fun bt567 => ((laws_eqSystem.f k bt567.1 bt567.2.1 bt559.1 bt559.2.1).bind fun t575 => (if t575 = true then (laws_FnExactReadSystem.j0 k a0 bt559.2.2 (bt567.2.2 != bt559.2.2) bt559.1 bt559.2.1 bt567.1 bt567.2.1) else (laws_FnExactReadSystem.j0 k a0 bt559.2.2 true bt559.1 bt559.2.1 bt567.1 bt567.2.1)))))) = some true := h
  clear h
  by_cases c2 : (a0.size : Int) > 1048576
  · rw [if_pos c2] at H
    have c2b0 : decide (1048576 < (a0.size : Int)) = true := decide_eq_true c2
    have c2b1 : decide (1048576 < a0.size) = true := decide_eq_true (by omega)
    clear c2
    clear H
    go_enter Tryd.func6, Tryd.ntmps6
    go_wp2
    go_ret
    exact ⟨by first | rfl | (simp [errW_none, errW_some] <;> rfl) | (simp [*, errW_none, errW_some] <;> rfl), by repeat (first | (with_reducible first | exact HB.out | apply below_alloc | apply pw_below_drewN | apply below_drew1) | exact HB.out)⟩
  · rw [if_neg c2] at H
    have c2b0 : decide (1048576 < (a0.size : Int)) = false := decide_eq_false c2
    have c2b1 : decide (1048576 < a0.size) = false := decide_eq_false (by omega)
    clear c2
    replace H := Option.bind_eq_some_iff.mp H
    obtain ⟨⟨t559, t562, t565⟩, A30, H⟩ := H
    replace H : ((impl_ReadSystem.f k a0).bind fun bt567 => ((laws_eqSystem.f k bt567.1 bt567.2.1 t559 t562).bind fun t575 => (if t575 = true then (laws_FnExactReadSystem.j0 k a0 t565 (bt567.2.2 != t565) t559 t562 bt567.1 bt567.2.1) else (laws_FnExactReadSystem.j0 k a0 t565 true t559 t562 bt567.1 bt567.2.1)))) = some true := H
    have A3 := Aside0.mk A30
    clear A30
    replace H := Option.bind_eq_some_iff.mp H
    obtain ⟨⟨t567, t570, t573⟩, A40, H⟩ := H
    replace H : ((laws_eqSystem.f k t567 t570 t559 t562).bind fun t575 => (if t575 = true then (laws_FnExactReadSystem.j0 k a0 t565 (t573 != t565) t559 t562 t567 t570) else (laws_FnExactReadSystem.j0 k a0 t565 true t559 t562 t567 t570))) = some true := H
    have A4 := Aside0.mk A40
    clear A40
    have HC5 := Aside0.mk H
    clear H
    go_enter Tryd.func6, Tryd.ntmps6
    go_upto_region 5 with (first | ((with_reducible refine gate_callee (f := 20) rfl ?_); refine goesL_ (some 16) rfl rfl Tryd.func20 (by kernel_rfl) rfl #[.string a0] rfl (by (try simp only [List.map_toArray, List.map_cons, List.map_nil]); first | done | rfl | (simp only [List.length_drop, List.length_take]; rfl)) ?_; (with_reducible refine (spec_ReadSystem.calls k a0 t559 t562 t565 _ A3.out).mono ?_); rintro e w6 ⟨v560, v563, rfl, ho0, ho1, hb⟩; refine ⟨_, rfl, ?_⟩; have n0_ := Aside0.mk (Kd.R_lower ho0 (below_size (by repeat (first | (with_reducible first | exact HB.out | apply below_alloc | apply pw_below_drewN | apply below_drew1) | exact HB.out)))); have n1_ := Aside0.mk (Kd.R_lower ho1 (below_size (by repeat (first | (with_reducible first | exact HB.out | apply below_alloc | apply pw_below_drewN | apply below_drew1) | exact HB.out)))); have n2_ := Aside0.mk (below_step (by repeat (first | (with_reducible first | exact HB.out | apply below_alloc | apply pw_below_drewN | apply below_drew1) | exact HB.out)) hb); clear HB; have HO561 := n0_; have HO564 := n1_; have HB := n2_; clear n0_ n1_ n2_; (try clear hb); (try clear hb2); (try clear hk); (try clear hi); (try clear ho0); (try clear ho1)) | ((with_reducible refine gate_dst (N := 3) rfl ?_); refine box_event ?hg (N := 3) ?hd (cs := #[.slice none 0 0, .slice none 0 0]) (t := 30) ?hr ?_; (case hd => rfl); (case hg => rfl); (case hr => first | (go_simp; done) | (go_simp; rfl)); intro gb566 hg w7 hbox hb; have n0_ := Aside0.mk (Kd.R_below (by (with_reducible repeat (first | apply Kd.R_alloc | apply Kd.R_drewN | apply Kd.R_drew)); exact HO561.out) hb); have n1_ := Aside0.mk (Kd.R_below (by (with_reducible repeat (first | apply Kd.R_alloc | apply Kd.R_drewN | apply Kd.R_drew)); exact HO564.out) hb); have n2_ := Aside0.mk (below_step (by repeat (first | (with_reducible first | exact HB.out | apply below_alloc | apply pw_below_drewN | apply below_drew1) | exact HB.out)) hb); have n3_ := Aside0.mk (hbox); have n4_ := Aside0.mk ((by rw [hg]; exact (below_size (by repeat (first | (with_reducible first | exact HB.out | apply below_alloc | apply pw_below_drewN | apply below_drew1) | exact HB.out))) : w.heap.size ≤ gb566)); have n5_ := Aside0.mk ((by rw [hg]; exact (below_size (by repeat (first | (with_reducible first | exact HB.out | apply below_alloc | apply pw_below_drewN | apply below_drew1) | exact HB.out))) : w.heap.size ≤ gb566)); clear HO561; clear HO564; clear HB; have HO561 := n0_; have HO564 := n1_; have HB := n2_; have BK566 := n3_; have GW566 := n4_; have GE566 := n5_; clear n0_ n1_ n2_ n3_ n4_ n5_; clear hb hbox hg; obtain ⟨Ao8, co8, eo8⟩ := Kd.R_slice HO561.out; subst eo8; have hcz9_0 : w7.cell? ⟨gb566, 0, none⟩ = some (.slice none 0 0) := (blk_cell BK566.out 0).trans rfl; have hcz9_1 : w7.cell? ⟨gb566, 1, none⟩ = some (.slice none 0 0) := (blk_cell BK566.out 1).trans rfl; have hfz9_0 := blk_frozen BK566.out 0; have hfz9_1 := blk_frozen BK566.out 1; obtain ⟨Ao10, co10, eo10⟩ := Kd.R_slice HO564.out; subst eo10) | ((with_reducible refine gate_callee (f := 21) rfl ?_); refine goesL_ (some 21) rfl rfl Tryd.func21 (by kernel_rfl) rfl #[.string a0] rfl (by (try simp only [List.map_toArray, List.map_cons, List.map_nil]); first | done | rfl | (simp only [List.length_drop, List.length_take]; rfl)) ?_; (with_reducible refine (impl_ReadSystem.calls k a0 t567 t570 t573 _ ?side1 A4.out).mono ?_); (case side1 => refine GlobFP.step hG_ ?_; repeat (first | (with_reducible first | exact HB.out | apply below_alloc | apply pw_below_drewN | apply below_drew1 | refine below_set ?_ GE566.out) | exact HB.out)); rintro e w11 ⟨v568, v571, rfl, ho0, ho1, hb⟩; refine ⟨_, rfl, ?_⟩; have n0_ := Aside0.mk (Kd.R_elder' (by (with_reducible repeat (first | apply Kd.R_alloc | apply Kd.R_drewN | apply Kd.R_drew)); exact (Kd.R_mono (Kd.R_far (p := ⟨gb566, 1, none⟩) (Kd.R_far (p := ⟨gb566, 0, none⟩) (Kd.R_types HO561.out BK566.out (by decide)) (fun _ hk => hk.2) (.slice Ao8 t559.length co8)) (fun _ hk => hk.2) (.slice Ao10 t562.length co10)) (fun _ h_ => h_.1))) (Kd.R_base ho0) hb); have n1_ := Aside0.mk (Kd.R_elder' (by (with_reducible repeat (first | apply Kd.R_alloc | apply Kd.R_drewN | apply Kd.R_drew)); exact (Kd.R_mono (Kd.R_far (p := ⟨gb566, 1, none⟩) (Kd.R_far (p := ⟨gb566, 0, none⟩) (Kd.R_types HO564.out BK566.out (by decide)) (fun _ hk => hk.2) (.slice Ao8 t559.length co8)) (fun _ hk => hk.2) (.slice Ao10 t562.length co10)) (fun _ h_ => h_.1))) (Kd.R_base ho1) hb); have n2_ := Aside0.mk (Kd.R_lower (Kd.R_new' ho0 (Kd.R_lt (by (with_reducible repeat (first | apply Kd.R_alloc | apply Kd.R_drewN | apply Kd.R_drew)); exact (Kd.R_mono (Kd.R_far (p := ⟨gb566, 1, none⟩) (Kd.R_far (p := ⟨gb566, 0, none⟩) (Kd.R_types HO561.out BK566.out (by decide)) (fun _ hk => hk.2) (.slice Ao8 t559.length co8)) (fun _ hk => hk.2) (.slice Ao10 t562.length co10)) (fun _ h_ => h_.1))))) (below_size (by repeat (first | (with_reducible first | exact HB.out | apply below_alloc | apply pw_below_drewN | apply below_drew1 | refine below_set ?_ GE566.out) | exact HB.out)))); have n3_ := Aside0.mk (Kd.R_lower (Kd.R_new' ho1 (Kd.R_lt (by (with_reducible repeat (first | apply Kd.R_alloc | apply Kd.R_drewN | apply Kd.R_drew)); exact (Kd.R_mono (Kd.R_far (p := ⟨gb566, 1, none⟩) (Kd.R_far (p := ⟨gb566, 0, none⟩) (Kd.R_types HO564.out BK566.out (by decide)) (fun _ hk => hk.2) (.slice Ao8 t559.length co8)) (fun _ hk => hk.2) (.slice Ao10 t562.length co10)) (fun _ h_ => h_.1))))) (below_size (by repeat (first | (with_reducible first | exact HB.out | apply below_alloc | apply pw_below_drewN | apply below_drew1 | refine below_set ?_ GE566.out) | exact HB.out)))); have n4_ := Aside0.mk (blk_below (g := gb566) (o := .cells #[.slice Ao8 t559.length co8, .slice Ao10 t562.length co10] 30 (0, 0)) (by (with_reducible repeat (first | refine blk_drewN ?_ _ | refine blk_drew ?_ | refine blk_alloc ?_ _)); refine blk_put (cs := #[.slice Ao8 t559.length co8, .slice none 0 0]) ?_ 1 _ rfl; (with_reducible repeat (first | refine blk_drewN ?_ _ | refine blk_drew ?_ | refine blk_alloc ?_ _)); refine blk_put (cs := #[.slice none 0 0, .slice none 0 0]) ?_ 0 _ rfl; (with_reducible repeat (first | refine blk_drewN ?_ _ | refine blk_drew ?_ | refine blk_alloc ?_ _)); exact BK566.out) hb); have n5_ := Aside0.mk (below_step (by repeat (first | (with_reducible first | exact HB.out | apply below_alloc | apply pw_below_drewN | apply below_drew1 | refine below_set ?_ GE566.out) | exact HB.out)) hb); clear HO561; clear HO564; clear BK566; clear HB; have HO561 := n0_; have HO564 := n1_; have HO569 := n2_; have HO572 := n3_; have BK566 := n4_; have HB := n5_; clear n0_ n1_ n2_ n3_ n4_ n5_; (try clear hb); (try clear hb2); (try clear hk); (try clear hi); (try clear ho0); (try clear ho1)) | ((with_reducible refine gate_dst (N := 5) rfl ?_); refine box_event ?hg (N := 5) ?hd (cs := #[.slice none 0 0, .slice none 0 0]) (t := 30) ?hr ?_; (case hd => rfl); (case hg => rfl); (case hr => first | (go_simp; done) | (go_simp; rfl)); intro gb574 hg w12 hbox hb; have n0_ := Aside0.mk (Kd.R_below (by (with_reducible repeat (first | apply Kd.R_alloc | apply Kd.R_drewN | apply Kd.R_drew)); exact HO561.out) hb); have n1_ := Aside0.mk (Kd.R_below (by (with_reducible repeat (first | apply Kd.R_alloc | apply Kd.R_drewN | apply Kd.R_drew)); exact HO564.out) hb); have n2_ := Aside0.mk (Kd.R_below (by (with_reducible repeat (first | apply Kd.R_alloc | apply Kd.R_drewN | apply Kd.R_drew)); exact HO569.out) hb); have n3_ := Aside0.mk (Kd.R_below (by (with_reducible repeat (first | apply Kd.R_alloc | apply Kd.R_drewN | apply Kd.R_drew)); exact HO572.out) hb); have n4_ := Aside0.mk (blk_below (g := gb566) (o := .cells #[.slice Ao8 t559.length co8, .slice Ao10 t562.length co10] 30 (0, 0)) (by (with_reducible repeat (first | refine blk_drewN ?_ _ | refine blk_drew ?_ | refine blk_alloc ?_ _)); exact BK566.out) hb); have n5_ := Aside0.mk (below_step (by repeat (first | (with_reducible first | exact HB.out | apply below_alloc | apply pw_below_drewN | apply below_drew1 | refine below_set ?_ GE566.out) | exact HB.out)) hb); have n6_ := Aside0.mk (hbox); have n7_ := Aside0.mk ((by rw [hg]; exact (below_size (by repeat (first | (with_reducible first | exact HB.out | apply below_alloc | apply pw_below_drewN | apply below_drew1 | refine below_set ?_ GE566.out) | exact HB.out))) : w.heap.size ≤ gb574)); have n8_ := Aside0.mk ((by rw [hg]; exact (below_size (by repeat (first | (with_reducible first | exact HB.out | apply below_alloc | apply pw_below_drewN | apply below_drew1 | refine below_set ?_ GE566.out) | exact HB.out))) : w.heap.size ≤ gb574)); have n9_ := Aside0.mk ((by rw [hg]; exact Nat.ne_of_lt (blk_lt (g := gb566) (o := .cells #[.slice Ao8 t559.length co8, .slice Ao10 t562.length co10] 30 (0, 0)) (by (with_reducible repeat (first | refine blk_drewN ?_ _ | refine blk_drew ?_ | refine blk_alloc ?_ _)); exact BK566.out)) : gb566 ≠ gb574)); have n10_ := Aside0.mk ((by rw [hg]; exact Nat.ne_of_gt (blk_lt (g := gb566) (o := .cells #[.slice Ao8 t559.length co8, .slice Ao10 t562.length co10] 30 (0, 0)) (by (with_reducible repeat (first | refine blk_drewN ?_ _ | refine blk_drew ?_ | refine blk_alloc ?_ _)); exact BK566.out)) : gb574 ≠ gb566)); clear HO561; clear HO564; clear HO569; clear HO572; clear BK566; clear HB; have HO561 := n0_; have HO564 := n1_; have HO569 := n2_; have HO572 := n3_; have BK566 := n4_; have HB := n5_; have BK574 := n6_; have GW574 := n7_; have GE574 := n8_; have NB566_574 := n9_; have NB574_566 := n10_; clear n0_ n1_ n2_ n3_ n4_ n5_ n6_ n7_ n8_ n9_ n10_; clear hb hbox hg; obtain ⟨Ao13, co13, eo13⟩ := Kd.R_slice HO569.out; subst eo13; have hnb14 := NB574_566.out; have hnc14 := NB566_574.out; have hcz15_0 : w12.cell? ⟨gb574, 0, none⟩ = some (.slice none 0 0) := (blk_cell BK574.out 0).trans rfl; have hcz15_1 : w12.cell? ⟨gb574, 1, none⟩ = some (.slice none 0 0) := (blk_cell BK574.out 1).trans rfl; have hfz15_0 := blk_frozen BK574.out 0; have hfz15_1 := blk_frozen BK574.out 1; obtain ⟨Ao16, co16, eo16⟩ := Kd.R_slice HO572.out; subst eo16))
    (try simp only [Act.put, List.setIfInBounds_toArray, List.set_cons_zero, List.set_cons_succ])
    go_cut [32] (fun v32 wc => ∃ (kq : Nat) (x32_4 : Bool), v32 = .bool x32_4 ∧ Aside0 (laws_FnExactReadSystem.j0 kq a0 t565 x32_4 t559 t562 t567 t570 = some true) ∧ Aside0 (kq ≤ k) ∧ Aside0 (Kd.R k56 56 wc w.heap.size (fun k_ => some k_ ≠ ((.slice Ao13 t567.length co13) : Value).ownBlock) (.slice Ao8 t559.length co8) t559) ∧ Aside0 (Kd.R k59 59 wc w.heap.size (fun k_ => some k_ ≠ ((.slice Ao16 t570.length co16) : Value).ownBlock) (.slice Ao10 t562.length co10) t562) ∧ Aside0 (Kd.R k56 56 wc w.heap.size (fun k_ => some k_ ≠ ((.slice Ao8 t559.length co8) : Value).ownBlock) (.slice Ao13 t567.length co13) t567) ∧ Aside0 (Kd.R k59 59 wc w.heap.size (fun k_ => some k_ ≠ ((.slice Ao10 t562.length co10) : Value).ownBlock) (.slice Ao16 t570.length co16) t570) ∧ Aside0 (wc.heap[gb566]? = some (.cells #[(.slice Ao8 t559.length co8), (.slice Ao10 t562.length co10)] 30 (0, 0))) ∧ Aside0 (wc.heap[gb574]? = some (.cells #[(.slice Ao13 t567.length co13), (.slice Ao16 t570.length co16)] 30 (0, 0))) ∧ Aside0 (Below w.heap.size w wc))
    case first =>
      have H := HC5.out
      clear HC5
      replace H := Option.bind_eq_some_iff.mp H
      obtain ⟨t575, A170, H⟩ := H
      replace H : (if t575 = true then (laws_FnExactReadSystem.j0 k a0 t565 (t573 != t565) t559 t562 t567 t570) else (laws_FnExactReadSystem.j0 k a0 t565 true t559 t562 t567 t570)) = some true := H
      have A17 := Aside0.mk A170
      clear A170
      by_cases c18 : t575 = true
      · subst c18
        have H1 : (laws_FnExactReadSystem.j0 k a0 t565 (t573 != t565) t559 t562 t567 t570) = some true := by rw [if_pos rfl] at H; exact H
        clear H
        have H := H1
        clear H1
        have H' := Aside0.mk H
        clear H
        have hnb19 := NB574_566.out
        have hnc19 := NB566_574.out
        have hcz20_0 : w12.cell? ⟨gb574, 0, none⟩ = some (.slice none 0 0) := (blk_cell BK574.out 0).trans rfl
        have hcz20_1 : w12.cell? ⟨gb574, 1, none⟩ = some (.slice none 0 0) := (blk_cell BK574.out 1).trans rfl
        have hfz20_0 := blk_frozen BK574.out 0
        have hfz20_1 := blk_frozen BK574.out 1
        have hcz21_0 : w12.cell? ⟨gb566, 0, none⟩ = some (.slice Ao8 t559.length co8) := (blk_cell BK566.out 0).trans rfl
        have hcz21_1 : w12.cell? ⟨gb566, 1, none⟩ = some (.slice Ao10 t562.length co10) := (blk_cell BK566.out 1).trans rfl
        have hfz21_0 := blk_frozen BK566.out 0
        have hfz21_1 := blk_frozen BK566.out 1
        go_wp2_with (first | ((with_reducible refine gate_callee (f := 11) rfl ?_); refine goesL_ (some 26) rfl rfl Tryd.func11 (by kernel_rfl) rfl #[.agg #[.slice Ao13 t567.length co13, .slice Ao16 t570.length co16], .agg #[.slice Ao8 t559.length co8, .slice Ao10 t562.length co10]] rfl (by (try simp only [List.map_toArray, List.map_cons, List.map_nil]); first | done | rfl | (simp only [List.length_drop, List.length_take]; rfl)) ?_; (with_reducible refine (laws_eqSystem.calls k _ _ t567 _ _ t570 _ _ t559 _ _ t562 true _ ?side1 ?side2 ?side3 ?side4 ?side5 ?side6 ?side7 ?side8 A17.out).mono ?_); (case side1 => refine (Kd.R_reads' (e := 56) (base := w.heap.size) (ok := fun k_ => (True ∧ some k_ ≠ (.slice Ao8 t559.length co8 : Value).ownBlock)) (n := t567.length) (c := co13) ?_).2.2; exact (by (with_reducible repeat (first | apply Kd.R_alloc | apply Kd.R_drewN | apply Kd.R_drew)); exact (Kd.R_mono (Kd.R_far (p := ⟨gb574, 1, none⟩) (Kd.R_far (p := ⟨gb574, 0, none⟩) (Kd.R_types HO569.out BK574.out (by decide)) (fun _ hk => hk.2) (.slice Ao13 t567.length co13)) (fun _ hk => hk.2) (.slice Ao16 t570.length co16)) (fun _ h_ => h_.1)))); (case side2 => exact (Kd.R_reads' HO569.out).2.1); (case side3 => refine (Kd.R_reads' (e := 59) (base := w.heap.size) (ok := fun k_ => (True ∧ some k_ ≠ (.slice Ao10 t562.length co10 : Value).ownBlock)) (n := t570.length) (c := co16) ?_).2.2; exact (by (with_reducible repeat (first | apply Kd.R_alloc | apply Kd.R_drewN | apply Kd.R_drew)); exact (Kd.R_mono (Kd.R_far (p := ⟨gb574, 1, none⟩) (Kd.R_far (p := ⟨gb574, 0, none⟩) (Kd.R_types HO572.out BK574.out (by decide)) (fun _ hk => hk.2) (.slice Ao13 t567.length co13)) (fun _ hk => hk.2) (.slice Ao16 t570.length co16)) (fun _ h_ => h_.1)))); (case side4 => exact (Kd.R_reads' HO572.out).2.1); (case side5 => refine (Kd.R_reads' (e := 56) (base := w.heap.size) (ok := fun k_ => (True ∧ some k_ ≠ (.slice Ao13 t567.length co13 : Value).ownBlock)) (n := t559.length) (c := co8) ?_).2.2; exact (by (with_reducible repeat (first | apply Kd.R_alloc | apply Kd.R_drewN | apply Kd.R_drew)); exact (Kd.R_mono (Kd.R_far (p := ⟨gb574, 1, none⟩) (Kd.R_far (p := ⟨gb574, 0, none⟩) (Kd.R_types HO561.out BK574.out (by decide)) (fun _ hk => hk.2) (.slice Ao13 t567.length co13)) (fun _ hk => hk.2) (.slice Ao16 t570.length co16)) (fun _ h_ => h_.1)))); (case side6 => exact (Kd.R_reads' HO561.out).2.1); (case side7 => refine (Kd.R_reads' (e := 59) (base := w.heap.size) (ok := fun k_ => (True ∧ some k_ ≠ (.slice Ao16 t570.length co16 : Value).ownBlock)) (n := t562.length) (c := co10) ?_).2.2; exact (by (with_reducible repeat (first | apply Kd.R_alloc | apply Kd.R_drewN | apply Kd.R_drew)); exact (Kd.R_mono (Kd.R_far (p := ⟨gb574, 1, none⟩) (Kd.R_far (p := ⟨gb574, 0, none⟩) (Kd.R_types HO564.out BK574.out (by decide)) (fun _ hk => hk.2) (.slice Ao13 t567.length co13)) (fun _ hk => hk.2) (.slice Ao16 t570.length co16)) (fun _ h_ => h_.1)))); (case side8 => exact (Kd.R_reads' HO564.out).2.1); rintro e w22 ⟨rfl, hb⟩; refine ⟨_, rfl, ?_⟩; have n0_ := Aside0.mk (Kd.R_below (by (with_reducible repeat (first | apply Kd.R_alloc | apply Kd.R_drewN | apply Kd.R_drew)); exact (Kd.R_mono (Kd.R_far (p := ⟨gb574, 1, none⟩) (Kd.R_far (p := ⟨gb574, 0, none⟩) (Kd.R_types HO561.out BK574.out (by decide)) (fun _ hk => hk.2) (.slice Ao13 t567.length co13)) (fun _ hk => hk.2) (.slice Ao16 t570.length co16)) (fun _ h_ => h_.1))) hb); have n1_ := Aside0.mk (Kd.R_below (by (with_reducible repeat (first | apply Kd.R_alloc | apply Kd.R_drewN | apply Kd.R_drew)); exact (Kd.R_mono (Kd.R_far (p := ⟨gb574, 1, none⟩) (Kd.R_far (p := ⟨gb574, 0, none⟩) (Kd.R_types HO564.out BK574.out (by decide)) (fun _ hk => hk.2) (.slice Ao13 t567.length co13)) (fun _ hk => hk.2) (.slice Ao16 t570.length co16)) (fun _ h_ => h_.1))) hb); have n2_ := Aside0.mk (Kd.R_below (by (with_reducible repeat (first | apply Kd.R_alloc | apply Kd.R_drewN | apply Kd.R_drew)); exact (Kd.R_mono (Kd.R_far (p := ⟨gb574, 1, none⟩) (Kd.R_far (p := ⟨gb574, 0, none⟩) (Kd.R_types HO569.out BK574.out (by decide)) (fun _ hk => hk.2) (.slice Ao13 t567.length co13)) (fun _ hk => hk.2) (.slice Ao16 t570.length co16)) (fun _ h_ => h_.1))) hb); have n3_ := Aside0.mk (Kd.R_below (by (with_reducible repeat (first | apply Kd.R_alloc | apply Kd.R_drewN | apply Kd.R_drew)); exact (Kd.R_mono (Kd.R_far (p := ⟨gb574, 1, none⟩) (Kd.R_far (p := ⟨gb574, 0, none⟩) (Kd.R_types HO572.out BK574.out (by decide)) (fun _ hk => hk.2) (.slice Ao13 t567.length co13)) (fun _ hk => hk.2) (.slice Ao16 t570.length co16)) (fun _ h_ => h_.1))) hb); have n4_ := Aside0.mk (blk_below (g := gb566) (o := .cells #[.slice Ao8 t559.length co8, .slice Ao10 t562.length co10] 30 (0, 0)) (by (with_reducible repeat (first | refine blk_drewN ?_ _ | refine blk_drew ?_ | refine blk_alloc ?_ _)); refine blk_far ?_ NB566_574.out _; (with_reducible repeat (first | refine blk_drewN ?_ _ | refine blk_drew ?_ | refine blk_alloc ?_ _)); refine blk_far ?_ NB566_574.out _; (with_reducible repeat (first | refine blk_drewN ?_ _ | refine blk_drew ?_ | refine blk_alloc ?_ _)); exact BK566.out) hb); have n5_ := Aside0.mk (blk_below (g := gb574) (o := .cells #[.slice Ao13 t567.length co13, .slice Ao16 t570.length co16] 30 (0, 0)) (by (with_reducible repeat (first | refine blk_drewN ?_ _ | refine blk_drew ?_ | refine blk_alloc ?_ _)); refine blk_put (cs := #[.slice Ao13 t567.length co13, .slice none 0 0]) ?_ 1 _ rfl; (with_reducible repeat (first | refine blk_drewN ?_ _ | refine blk_drew ?_ | refine blk_alloc ?_ _)); refine blk_put (cs := #[.slice none 0 0, .slice none 0 0]) ?_ 0 _ rfl; (with_reducible repeat (first | refine blk_drewN ?_ _ | refine blk_drew ?_ | refine blk_alloc ?_ _)); exact BK574.out) hb); have n6_ := Aside0.mk (below_step (by repeat (first | (with_reducible first | exact HB.out | apply below_alloc | apply pw_below_drewN | apply below_drew1 | refine below_set ?_ GE566.out | refine below_set ?_ GE574.out) | exact HB.out)) hb); clear HO561; clear HO564; clear HO569; clear HO572; clear BK566; clear BK574; clear HB; have HO561 := n0_; have HO564 := n1_; have HO569 := n2_; have HO572 := n3_; have BK566 := n4_; have BK574 := n5_; have HB := n6_; clear n0_ n1_ n2_ n3_ n4_ n5_ n6_; (try clear hb); (try clear hb2); (try clear hk); (try clear hi)))
        go_meet
        case rel => exact ⟨_, ((t573 != t565)), (by first | rfl | (simp; done) | (simp [*]; done)), H', ⟨by first | omega | exact Nat.le_refl _⟩, ⟨by (with_reducible repeat (first | apply Kd.R_alloc | apply Kd.R_drewN | apply Kd.R_drew)); exact Kd.R_mono HO561.out (fun _ hk => hk.2)⟩, ⟨by (with_reducible repeat (first | apply Kd.R_alloc | apply Kd.R_drewN | apply Kd.R_drew)); exact Kd.R_mono HO564.out (fun _ hk => hk.2)⟩, ⟨by (with_reducible repeat (first | apply Kd.R_alloc | apply Kd.R_drewN | apply Kd.R_drew)); exact Kd.R_mono HO569.out (fun _ hk => hk.2)⟩, ⟨by (with_reducible repeat (first | apply Kd.R_alloc | apply Kd.R_drewN | apply Kd.R_drew)); exact Kd.R_mono HO572.out (fun _ hk => hk.2)⟩, ⟨by (with_reducible repeat (first | refine blk_drewN ?_ _ | refine blk_drew ?_ | refine blk_alloc ?_ _)); exact BK566.out⟩, ⟨by (with_reducible repeat (first | refine blk_drewN ?_ _ | refine blk_drew ?_ | refine blk_alloc ?_ _)); exact BK574.out⟩, ⟨by repeat (first | (with_reducible first | exact HB.out | apply below_alloc | apply pw_below_drewN | apply below_drew1 | refine below_set ?_ GE566.out | refine below_set ?_ GE574.out) | exact HB.out)⟩⟩
      · replace c18 := Bool.eq_false_iff.mpr c18
        subst c18
        have H1 : (laws_FnExactReadSystem.j0 k a0 t565 true t559 t562 t567 t570) = some true := by rw [if_neg (show ¬ (false = true) by decide)] at H; exact H
        clear H
        have H := H1
        clear H1
        have H' := Aside0.mk H
        clear H
        have hnb23 := NB574_566.out
        have hnc23 := NB566_574.out
        have hcz24_0 : w12.cell? ⟨gb574, 0, none⟩ = some (.slice none 0 0) := (blk_cell BK574.out 0).trans rfl
        have hcz24_1 : w12.cell? ⟨gb574, 1, none⟩ = some (.slice none 0 0) := (blk_cell BK574.out 1).trans rfl
        have hfz24_0 := blk_frozen BK574.out 0
        have hfz24_1 := blk_frozen BK574.out 1
        have hcz25_0 : w12.cell? ⟨gb566, 0, none⟩ = some (.slice Ao8 t559.length co8) := (blk_cell BK566.out 0).trans rfl
        have hcz25_1 : w12.cell? ⟨gb566, 1, none⟩ = some (.slice Ao10 t562.length co10) := (blk_cell BK566.out 1).trans rfl
        have hfz25_0 := blk_frozen BK566.out 0
        have hfz25_1 := blk_frozen BK566.out 1
        go_wp2_with (first | ((with_reducible refine gate_callee (f := 11) rfl ?_); refine goesL_ (some 26) rfl rfl Tryd.func11 (by kernel_rfl) rfl #[.agg #[.slice Ao13 t567.length co13, .slice Ao16 t570.length co16], .agg #[.slice Ao8 t559.length co8, .slice Ao10 t562.length co10]] rfl (by (try simp only [List.map_toArray, List.map_cons, List.map_nil]); first | done | rfl | (simp only [List.length_drop, List.length_take]; rfl)) ?_; (with_reducible refine (laws_eqSystem.calls k _ _ t567 _ _ t570 _ _ t559 _ _ t562 false _ ?side1 ?side2 ?side3 ?side4 ?side5 ?side6 ?side7 ?side8 A17.out).mono ?_); (case side1 => refine (Kd.R_reads' (e := 56) (base := w.heap.size) (ok := fun k_ => (True ∧ some k_ ≠ (.slice Ao8 t559.length co8 : Value).ownBlock)) (n := t567.length) (c := co13) ?_).2.2; exact (by (with_reducible repeat (first | apply Kd.R_alloc | apply Kd.R_drewN | apply Kd.R_drew)); exact (Kd.R_mono (Kd.R_far (p := ⟨gb574, 1, none⟩) (Kd.R_far (p := ⟨gb574, 0, none⟩) (Kd.R_types HO569.out BK574.out (by decide)) (fun _ hk => hk.2) (.slice Ao13 t567.length co13)) (fun _ hk => hk.2) (.slice Ao16 t570.length co16)) (fun _ h_ => h_.1)))); (case side2 => exact (Kd.R_reads' HO569.out).2.1); (case side3 => refine (Kd.R_reads' (e := 59) (base := w.heap.size) (ok := fun k_ => (True ∧ some k_ ≠ (.slice Ao10 t562.length co10 : Value).ownBlock)) (n := t570.length) (c := co16) ?_).2.2; exact (by (with_reducible repeat (first | apply Kd.R_alloc | apply Kd.R_drewN | apply Kd.R_drew)); exact (Kd.R_mono (Kd.R_far (p := ⟨gb574, 1, none⟩) (Kd.R_far (p := ⟨gb574, 0, none⟩) (Kd.R_types HO572.out BK574.out (by decide)) (fun _ hk => hk.2) (.slice Ao13 t567.length co13)) (fun _ hk => hk.2) (.slice Ao16 t570.length co16)) (fun _ h_ => h_.1)))); (case side4 => exact (Kd.R_reads' HO572.out).2.1); (case side5 => refine (Kd.R_reads' (e := 56) (base := w.heap.size) (ok := fun k_ => (True ∧ some k_ ≠ (.slice Ao13 t567.length co13 : Value).ownBlock)) (n := t559.length) (c := co8) ?_).2.2; exact (by (with_reducible repeat (first | apply Kd.R_alloc | apply Kd.R_drewN | apply Kd.R_drew)); exact (Kd.R_mono (Kd.R_far (p := ⟨gb574, 1, none⟩) (Kd.R_far (p := ⟨gb574, 0, none⟩) (Kd.R_types HO561.out BK574.out (by decide)) (fun _ hk => hk.2) (.slice Ao13 t567.length co13)) (fun _ hk => hk.2) (.slice Ao16 t570.length co16)) (fun _ h_ => h_.1)))); (case side6 => exact (Kd.R_reads' HO561.out).2.1); (case side7 => refine (Kd.R_reads' (e := 59) (base := w.heap.size) (ok := fun k_ => (True ∧ some k_ ≠ (.slice Ao16 t570.length co16 : Value).ownBlock)) (n := t562.length) (c := co10) ?_).2.2; exact (by (with_reducible repeat (first | apply Kd.R_alloc | apply Kd.R_drewN | apply Kd.R_drew)); exact (Kd.R_mono (Kd.R_far (p := ⟨gb574, 1, none⟩) (Kd.R_far (p := ⟨gb574, 0, none⟩) (Kd.R_types HO564.out BK574.out (by decide)) (fun _ hk => hk.2) (.slice Ao13 t567.length co13)) (fun _ hk => hk.2) (.slice Ao16 t570.length co16)) (fun _ h_ => h_.1)))); (case side8 => exact (Kd.R_reads' HO564.out).2.1); rintro e w26 ⟨rfl, hb⟩; refine ⟨_, rfl, ?_⟩; have n0_ := Aside0.mk (Kd.R_below (by (with_reducible repeat (first | apply Kd.R_alloc | apply Kd.R_drewN | apply Kd.R_drew)); exact (Kd.R_mono (Kd.R_far (p := ⟨gb574, 1, none⟩) (Kd.R_far (p := ⟨gb574, 0, none⟩) (Kd.R_types HO561.out BK574.out (by decide)) (fun _ hk => hk.2) (.slice Ao13 t567.length co13)) (fun _ hk => hk.2) (.slice Ao16 t570.length co16)) (fun _ h_ => h_.1))) hb); have n1_ := Aside0.mk (Kd.R_below (by (with_reducible repeat (first | apply Kd.R_alloc | apply Kd.R_drewN | apply Kd.R_drew)); exact (Kd.R_mono (Kd.R_far (p := ⟨gb574, 1, none⟩) (Kd.R_far (p := ⟨gb574, 0, none⟩) (Kd.R_types HO564.out BK574.out (by decide)) (fun _ hk => hk.2) (.slice Ao13 t567.length co13)) (fun _ hk => hk.2) (.slice Ao16 t570.length co16)) (fun _ h_ => h_.1))) hb); have n2_ := Aside0.mk (Kd.R_below (by (with_reducible repeat (first | apply Kd.R_alloc | apply Kd.R_drewN | apply Kd.R_drew)); exact (Kd.R_mono (Kd.R_far (p := ⟨gb574, 1, none⟩) (Kd.R_far (p := ⟨gb574, 0, none⟩) (Kd.R_types HO569.out BK574.out (by decide)) (fun _ hk => hk.2) (.slice Ao13 t567.length co13)) (fun _ hk => hk.2) (.slice Ao16 t570.length co16)) (fun _ h_ => h_.1))) hb); have n3_ := Aside0.mk (Kd.R_below (by (with_reducible repeat (first | apply Kd.R_alloc | apply Kd.R_drewN | apply Kd.R_drew)); exact (Kd.R_mono (Kd.R_far (p := ⟨gb574, 1, none⟩) (Kd.R_far (p := ⟨gb574, 0, none⟩) (Kd.R_types HO572.out BK574.out (by decide)) (fun _ hk => hk.2) (.slice Ao13 t567.length co13)) (fun _ hk => hk.2) (.slice Ao16 t570.length co16)) (fun _ h_ => h_.1))) hb); have n4_ := Aside0.mk (blk_below (g := gb566) (o := .cells #[.slice Ao8 t559.length co8, .slice Ao10 t562.length co10] 30 (0, 0)) (by (with_reducible repeat (first | refine blk_drewN ?_ _ | refine blk_drew ?_ | refine blk_alloc ?_ _)); refine blk_far ?_ NB566_574.out _; (with_reducible repeat (first | refine blk_drewN ?_ _ | refine blk_drew ?_ | refine blk_alloc ?_ _)); refine blk_far ?_ NB566_574.out _; (with_reducible repeat (first | refine blk_drewN ?_ _ | refine blk_drew ?_ | refine blk_alloc ?_ _)); exact BK566.out) hb); have n5_ := Aside0.mk (blk_below (g := gb574) (o := .cells #[.slice Ao13 t567.length co13, .slice Ao16 t570.length co16] 30 (0, 0)) (by (with_reducible repeat (first | refine blk_drewN ?_ _ | refine blk_drew ?_ | refine blk_alloc ?_ _)); refine blk_put (cs := #[.slice Ao13 t567.length co13, .slice none 0 0]) ?_ 1 _ rfl; (with_reducible repeat (first | refine blk_drewN ?_ _ | refine blk_drew ?_ | refine blk_alloc ?_ _)); refine blk_put (cs := #[.slice none 0 0, .slice none 0 0]) ?_ 0 _ rfl; (with_reducible repeat (first | refine blk_drewN ?_ _ | refine blk_drew ?_ | refine blk_alloc ?_ _)); exact BK574.out) hb); have n6_ := Aside0.mk (below_step (by repeat (first | (with_reducible first | exact HB.out | apply below_alloc | apply pw_below_drewN | apply below_drew1 | refine below_set ?_ GE566.out | refine below_set ?_ GE574.out) | exact HB.out)) hb); clear HO561; clear HO564; clear HO569; clear HO572; clear BK566; clear BK574; clear HB; have HO561 := n0_; have HO564 := n1_; have HO569 := n2_; have HO572 := n3_; have BK566 := n4_; have BK574 := n5_; have HB := n6_; clear n0_ n1_ n2_ n3_ n4_ n5_ n6_; (try clear hb); (try clear hb2); (try clear hk); (try clear hi)))
        go_meet
        case rel => exact ⟨_, (true), (by first | rfl | (simp; done) | (simp [*]; done)), H', ⟨by first | omega | exact Nat.le_refl _⟩, ⟨by (with_reducible repeat (first | apply Kd.R_alloc | apply Kd.R_drewN | apply Kd.R_drew)); exact Kd.R_mono HO561.out (fun _ hk => hk.2)⟩, ⟨by (with_reducible repeat (first | apply Kd.R_alloc | apply Kd.R_drewN | apply Kd.R_drew)); exact Kd.R_mono HO564.out (fun _ hk => hk.2)⟩, ⟨by (with_reducible repeat (first | apply Kd.R_alloc | apply Kd.R_drewN | apply Kd.R_drew)); exact Kd.R_mono HO569.out (fun _ hk => hk.2)⟩, ⟨by (with_reducible repeat (first | apply Kd.R_alloc | apply Kd.R_drewN | apply Kd.R_drew)); exact Kd.R_mono HO572.out (fun _ hk => hk.2)⟩, ⟨by (with_reducible repeat (first | refine blk_drewN ?_ _ | refine blk_drew ?_ | refine blk_alloc ?_ _)); exact BK566.out⟩, ⟨by (with_reducible repeat (first | refine blk_drewN ?_ _ | refine blk_drew ?_ | refine blk_alloc ?_ _)); exact BK574.out⟩, ⟨by repeat (first | (with_reducible first | exact HB.out | apply below_alloc | apply pw_below_drewN | apply below_drew1 | refine below_set ?_ GE566.out | refine below_set ?_ GE574.out) | exact HB.out)⟩⟩
    case rest =>
      clear HC5
      try clear c1
      try clear c2
      try clear c2b0
      try clear c2b1
      try clear p2
      try clear c6
      try clear c11
      try clear c14
      try clear c18
      try clear c19
      try clear c20
      try clear c21
      try clear c23
      try clear hcz15_0
      try clear hcz15_1
      try clear hcz20_0
      try clear hcz20_1
      try clear hcz21_0
      try clear hcz21_1
      try clear hcz24_0
      try clear hcz24_1
      try clear hcz25_0
      try clear hcz25_1
      try clear hcz9_0
      try clear hcz9_1
      try clear hfz15_0
      try clear hfz15_1
      try clear hfz20_0
      try clear hfz20_1
      try clear hfz21_0
      try clear hfz21_1
      try clear hfz24_0
      try clear hfz24_1
      try clear hfz25_0
      try clear hfz25_1
      try clear hfz9_0
      try clear hfz9_1
      obtain ⟨kq, x32_4, rfl, HA, HJ4, HO_567000, HO_567001, HO_575000, HO_575001, BK566, BK574, HB⟩ := hcut
      cases kq with
      | zero => exact absurd HA.out (by simp [laws_FnExactReadSystem.j0])
      | succ kj4 =>
        have H := HA.out
        clear HA
        simp only [laws_FnExactReadSystem.j0] at H
        by_cases c27 : x32_4 = true
        · subst c27
          have H1 : (some false) = some true := by rw [if_pos rfl] at H; exact H
          clear H
          have H := H1
          clear H1
          exact absurd H (by simp)
        · replace c27 := Bool.eq_false_iff.mpr c27
          subst c27
          have H1 : ((laws_markSystem.f kj4 t567 t570 1).bind fun bt576 => ((laws_heldSystem.f kj4 bt576.2.1 bt576.2.2 1).bind fun t579 => (if t579 < 0 then (some false) else (if t579 = bt576.1 then ((impl_ReadSystem.f kj4 a0).bind fun bt580 => ((laws_eqSystem.f kj4 bt580.1 bt580.2.1 t559 t562).bind fun t588 => (if t588 = true then (laws_FnExactReadSystem.j1 kj4 bt576.1 (bt580.2.2 != t565) bt576.2.1 bt576.2.2) else (laws_FnExactReadSystem.j1 kj4 bt576.1 true bt576.2.1 bt576.2.2)))) else (some false))))) = some true := by rw [if_neg (show ¬ (false = true) by decide)] at H; exact H
          clear H
          have H := H1
          clear H1
          replace H := Option.bind_eq_some_iff.mp H
          obtain ⟨⟨t576, t577, t578⟩, A280, H⟩ := H
          replace H : ((laws_heldSystem.f kj4 t577 t578 1).bind fun t579 => (if t579 < 0 then (some false) else (if t579 = t576 then ((impl_ReadSystem.f kj4 a0).bind fun bt580 => ((laws_eqSystem.f kj4 bt580.1 bt580.2.1 t559 t562).bind fun t588 => (if t588 = true then (laws_FnExactReadSystem.j1 kj4 t576 (bt580.2.2 != t565) t577 t578) else (laws_FnExactReadSystem.j1 kj4 t576 true t577 t578)))) else (some false)))) = some true := H
          have A28 := Aside0.mk A280
          clear A280
          replace H := Option.bind_eq_some_iff.mp H
          obtain ⟨t579, A290, H⟩ := H
          replace H : (if t579 < 0 then (some false) else (if t579 = t576 then ((impl_ReadSystem.f kj4 a0).bind fun bt580 => ((laws_eqSystem.f kj4 bt580.1 bt580.2.1 t559 t562).bind fun t588 => (if t588 = true then (laws_FnExactReadSystem.j1 kj4 t576 (bt580.2.2 != t565) t577 t578) else (laws_FnExactReadSystem.j1 kj4 t576 true t577 t578)))) else (some false))) = some true := H
          have A29 := Aside0.mk A290
          clear A290
          by_cases c30 : t579 < 0
          · rw [if_pos c30] at H
            have c30b0 : decide (t579 < 0) = true := decide_eq_true c30
            clear c30
            exact absurd H (by simp)
          · rw [if_neg c30] at H
            have c30b0 : decide (t579 < 0) = false := decide_eq_false c30
            clear c30
            by_cases c36 : t579 = t576
            · rw [if_pos c36] at H
              have c36b0 : (t579 == t576) = true := beq_iff_eq.mpr c36
              have c36b1 : (t579 != t576) = false := bne_eq_false_iff_eq.mpr c36
              clear c36
              replace H := Option.bind_eq_some_iff.mp H
              obtain ⟨⟨t580, t583, t586⟩, A370, H⟩ := H
              replace H : ((laws_eqSystem.f kj4 t580 t583 t559 t562).bind fun t588 => (if t588 = true then (laws_FnExactReadSystem.j1 kj4 t576 (t586 != t565) t577 t578) else (laws_FnExactReadSystem.j1 kj4 t576 true t577 t578))) = some true := H
              have A37 := Aside0.mk A370
              clear A370
              have HC38 := Aside0.mk H
              clear H
              have hnb39 := NB574_566.out
              have hnc39 := NB566_574.out
              have hcz40_0 : wc.cell? ⟨gb574, 0, none⟩ = some (.slice Ao13 t567.length co13) := (blk_cell BK574.out 0).trans rfl
              have hcz40_1 : wc.cell? ⟨gb574, 1, none⟩ = some (.slice Ao16 t570.length co16) := (blk_cell BK574.out 1).trans rfl
              have hfz40_0 := blk_frozen BK574.out 0
              have hfz40_1 := blk_frozen BK574.out 1
              go_upto_region 16 with (first | ((with_reducible refine gate_callee (f := 17) rfl ?_); refine goesL_ (some 35) rfl rfl Tryd.func17 (by kernel_rfl) rfl #[.agg #[.slice Ao13 t567.length co13, .slice Ao16 t570.length co16], .int .i64 1] rfl (by (try simp only [List.map_toArray, List.map_cons, List.map_nil]); first | done | rfl | (simp only [List.length_drop, List.length_take]; rfl)) ?_; (with_reducible refine (laws_markSystem.calls kj4 (fun k_ => some k_ = (.slice Ao13 t567.length co13 : Value).ownBlock) (.slice Ao13 t567.length co13) t567 (fun k_ => some k_ = (.slice Ao16 t570.length co16 : Value).ownBlock) (.slice Ao16 t570.length co16) t570 1 t576 t577 t578 w _ ?side1 ?side2 ?side3 A28.out).mono ?_); (case side1 => repeat (first | (with_reducible first | exact HB.out | apply below_alloc | apply pw_below_drewN | apply below_drew1 | refine below_set ?_ GE566.out | refine below_set ?_ GE574.out) | exact HB.out)); (case side2 => exact Kd.R_tight rfl HO_575000.out); (case side3 => exact Kd.R_tight rfl HO_575001.out); rintro e w41 ⟨rfl, hy0, hy1, hb, hkp⟩; refine ⟨_, rfl, ?_⟩; have n0_ := Aside0.mk (Kd.R_mono (ok' := fun k_ => some k_ ≠ (.slice Ao13 t567.length co13 : Value).ownBlock) (Kd.R_keptB ((Kd.R_apart' HO_567000.out (Kd.R_typed HO_575001.out) (by decide))) hkp (fun k_ hk_ hs_ => Or.elim hs_ (fun e_ => (hk_.1) e_) (fun e_ => (hk_.2) e_))) (fun k_ hk_ => hk_.1.1)); have n1_ := Aside0.mk (Kd.R_mono (ok' := fun k_ => some k_ ≠ (.slice Ao16 t570.length co16 : Value).ownBlock) (Kd.R_keptB ((Kd.R_apart' HO_567001.out (Kd.R_typed HO_575000.out) (by decide))) hkp (fun k_ hk_ hs_ => Or.elim hs_ (fun e_ => (hk_.2) e_) (fun e_ => (hk_.1) e_))) (fun k_ hk_ => hk_.1.1)); have n2_ := Aside0.mk (Kd.R_reok rfl hy0 (fun k_ e_ => HO_575000.out.1 k_ e_)); have n3_ := Aside0.mk (Kd.R_reok rfl hy1 (fun k_ e_ => HO_575001.out.1 k_ e_)); have n4_ := Aside0.mk (blk_kept (by (with_reducible repeat (first | refine blk_drewN ?_ _ | refine blk_drew ?_ | refine blk_alloc ?_ _)); exact BK566.out) hkp (fun hs_ => Or.elim hs_ (fun e_ => (fun e_ => (Kd.R_ne HO_575000.out BK566.out (by decide)) e_) e_) (fun e_ => (fun e_ => (Kd.R_ne HO_575001.out BK566.out (by decide)) e_) e_))); have n5_ := Aside0.mk (blk_kept (by (with_reducible repeat (first | refine blk_drewN ?_ _ | refine blk_drew ?_ | refine blk_alloc ?_ _)); exact BK574.out) hkp (fun hs_ => Or.elim hs_ (fun e_ => (fun e_ => (Kd.R_ne HO_575000.out BK574.out (by decide)) e_) e_) (fun e_ => (fun e_ => (Kd.R_ne HO_575001.out BK574.out (by decide)) e_) e_))); have n6_ := Aside0.mk (hb); clear HO_567000; clear HO_567001; clear HO_575000; clear HO_575001; clear BK566; clear BK574; clear HB; have HO_567000 := n0_; have HO_567001 := n1_; have HO_575000 := n2_; have HO_575001 := n3_; have BK566 := n4_; have BK574 := n5_; have HB := n6_; clear n0_ n1_ n2_ n3_ n4_ n5_ n6_; (try clear hb); (try clear hkp); (try clear hy0); (try clear hy1); have hcz42_0 : w41.cell? ⟨gb574, 0, none⟩ = some (.slice Ao13 t567.length co13) := (blk_cell BK574.out 0).trans rfl; have hcz42_1 : w41.cell? ⟨gb574, 1, none⟩ = some (.slice Ao16 t570.length co16) := (blk_cell BK574.out 1).trans rfl; have hfz42_0 := blk_frozen BK574.out 0; have hfz42_1 := blk_frozen BK574.out 1) | ((with_reducible refine gate_callee (f := 22) rfl ?_); refine goesL_ (some 38) rfl rfl Tryd.func22 (by kernel_rfl) rfl #[.agg #[.slice Ao13 t577.length co13, .slice Ao16 t578.length co16], .int .i64 1] rfl (by (try simp only [List.map_toArray, List.map_cons, List.map_nil]); first | done | (rw [show t577.length = t567.length from (Kd.R_reads' HO_575000.out).1.symm, show t578.length = t570.length from (Kd.R_reads' HO_575001.out).1.symm] <;> rfl) | rfl | (simp only [List.length_drop, List.length_take]; rfl)) ?_; (with_reducible refine (laws_heldSystem.calls kj4 _ _ t577 _ _ t578 1 t579 _ ?side1 ?side2 ?side3 ?side4 A29.out).mono ?_); (case side1 => repeat (first | exact (Kd.R_reads' HO_575000.out).2.2 | (with_reducible refine Kd.C_alloc ?_ _) | (with_reducible refine Kd.C_drewN ?_ _) | (with_reducible refine Kd.C_drew ?_))); (case side2 => rw [show t577.length = t567.length from (Kd.R_reads' HO_575000.out).1.symm]; exact (Kd.R_reads' HO_575000.out).2.1); (case side3 => repeat (first | exact (Kd.R_reads' HO_575001.out).2.2 | (with_reducible refine Kd.C_alloc ?_ _) | (with_reducible refine Kd.C_drewN ?_ _) | (with_reducible refine Kd.C_drew ?_))); (case side4 => rw [show t578.length = t570.length from (Kd.R_reads' HO_575001.out).1.symm]; exact (Kd.R_reads' HO_575001.out).2.1); rintro e w43 ⟨rfl, hb⟩; refine ⟨_, rfl, ?_⟩; have n0_ := Aside0.mk (Kd.R_below (by (with_reducible repeat (first | apply Kd.R_alloc | apply Kd.R_drewN | apply Kd.R_drew)); exact HO_567000.out) hb); have n1_ := Aside0.mk (Kd.R_below (by (with_reducible repeat (first | apply Kd.R_alloc | apply Kd.R_drewN | apply Kd.R_drew)); exact HO_567001.out) hb); have n2_ := Aside0.mk (Kd.R_below (by (with_reducible repeat (first | apply Kd.R_alloc | apply Kd.R_drewN | apply Kd.R_drew)); exact HO_575000.out) hb); have n3_ := Aside0.mk (Kd.R_below (by (with_reducible repeat (first | apply Kd.R_alloc | apply Kd.R_drewN | apply Kd.R_drew)); exact HO_575001.out) hb); have n4_ := Aside0.mk (blk_below (g := gb566) (o := .cells #[.slice Ao8 t559.length co8, .slice Ao10 t562.length co10] 30 (0, 0)) (by (with_reducible repeat (first | refine blk_drewN ?_ _ | refine blk_drew ?_ | refine blk_alloc ?_ _)); exact BK566.out) hb); have n5_ := Aside0.mk (blk_below (g := gb574) (o := .cells #[.slice Ao13 t567.length co13, .slice Ao16 t570.length co16] 30 (0, 0)) (by (with_reducible repeat (first | refine blk_drewN ?_ _ | refine blk_drew ?_ | refine blk_alloc ?_ _)); exact BK574.out) hb); have n6_ := Aside0.mk (below_step (by repeat (first | (with_reducible first | exact HB.out | apply below_alloc | apply pw_below_drewN | apply below_drew1 | refine below_set ?_ GE566.out | refine below_set ?_ GE574.out) | exact HB.out)) hb); clear HO_567000; clear HO_567001; clear HO_575000; clear HO_575001; clear BK566; clear BK574; clear HB; have HO_567000 := n0_; have HO_567001 := n1_; have HO_575000 := n2_; have HO_575001 := n3_; have BK566 := n4_; have BK574 := n5_; have HB := n6_; clear n0_ n1_ n2_ n3_ n4_ n5_ n6_; (try clear hb); (try clear hb2); (try clear hk); (try clear hi)) | ((with_reducible refine gate_callee (f := 21) rfl ?_); refine goesL_ (some 46) rfl rfl Tryd.func21 (by kernel_rfl) rfl #[.string a0] rfl (by (try simp only [List.map_toArray, List.map_cons, List.map_nil]); first | done | rfl | (simp only [List.length_drop, List.length_take]; rfl)) ?_; (with_reducible refine (impl_ReadSystem.calls kj4 a0 t580 t583 t586 _ ?side1 A37.out).mono ?_); (case side1 => refine GlobFP.step hG_ ?_; repeat (first | (with_reducible first | exact HB.out | apply below_alloc | apply pw_below_drewN | apply below_drew1 | refine below_set ?_ GE566.out | refine below_set ?_ GE574.out) | exact HB.out)); rintro e w44 ⟨v581, v584, rfl, ho0, ho1, hb⟩; refine ⟨_, rfl, ?_⟩; have n0_ := Aside0.mk (Kd.R_elder' (by (with_reducible repeat (first | apply Kd.R_alloc | apply Kd.R_drewN | apply Kd.R_drew)); exact HO_567000.out) (Kd.R_base ho0) hb); have n1_ := Aside0.mk (Kd.R_elder' (by (with_reducible repeat (first | apply Kd.R_alloc | apply Kd.R_drewN | apply Kd.R_drew)); exact HO_567001.out) (Kd.R_base ho1) hb); have n2_ := Aside0.mk (Kd.R_elder' (by (with_reducible repeat (first | apply Kd.R_alloc | apply Kd.R_drewN | apply Kd.R_drew)); exact HO_575000.out) (Kd.R_base ho0) hb); have n3_ := Aside0.mk (Kd.R_elder' (by (with_reducible repeat (first | apply Kd.R_alloc | apply Kd.R_drewN | apply Kd.R_drew)); exact HO_575001.out) (Kd.R_base ho1) hb); have n4_ := Aside0.mk (Kd.R_lower (Kd.R_new' (Kd.R_new' ho0 (Kd.R_lt (by (with_reducible repeat (first | apply Kd.R_alloc | apply Kd.R_drewN | apply Kd.R_drew)); exact HO_567000.out))) (Kd.R_lt (by (with_reducible repeat (first | apply Kd.R_alloc | apply Kd.R_drewN | apply Kd.R_drew)); exact HO_575000.out))) (below_size (by repeat (first | (with_reducible first | exact HB.out | apply below_alloc | apply pw_below_drewN | apply below_drew1 | refine below_set ?_ GE566.out | refine below_set ?_ GE574.out) | exact HB.out)))); have n5_ := Aside0.mk (Kd.R_lower (Kd.R_new' (Kd.R_new' ho1 (Kd.R_lt (by (with_reducible repeat (first | apply Kd.R_alloc | apply Kd.R_drewN | apply Kd.R_drew)); exact HO_567001.out))) (Kd.R_lt (by (with_reducible repeat (first | apply Kd.R_alloc | apply Kd.R_drewN | apply Kd.R_drew)); exact HO_575001.out))) (below_size (by repeat (first | (with_reducible first | exact HB.out | apply below_alloc | apply pw_below_drewN | apply below_drew1 | refine below_set ?_ GE566.out | refine below_set ?_ GE574.out) | exact HB.out)))); have n6_ := Aside0.mk (blk_below (g := gb566) (o := .cells #[.slice Ao8 t559.length co8, .slice Ao10 t562.length co10] 30 (0, 0)) (by (with_reducible repeat (first | refine blk_drewN ?_ _ | refine blk_drew ?_ | refine blk_alloc ?_ _)); exact BK566.out) hb); have n7_ := Aside0.mk (blk_below (g := gb574) (o := .cells #[.slice Ao13 t567.length co13, .slice Ao16 t570.length co16] 30 (0, 0)) (by (with_reducible repeat (first | refine blk_drewN ?_ _ | refine blk_drew ?_ | refine blk_alloc ?_ _)); exact BK574.out) hb); have n8_ := Aside0.mk (below_step (by repeat (first | (with_reducible first | exact HB.out | apply below_alloc | apply pw_below_drewN | apply below_drew1 | refine below_set ?_ GE566.out | refine below_set ?_ GE574.out) | exact HB.out)) hb); clear HO_567000; clear HO_567001; clear HO_575000; clear HO_575001; clear BK566; clear BK574; clear HB; have HO_567000 := n0_; have HO_567001 := n1_; have HO_575000 := n2_; have HO_575001 := n3_; have HO582 := n4_; have HO585 := n5_; have BK566 := n6_; have BK574 := n7_; have HB := n8_; clear n0_ n1_ n2_ n3_ n4_ n5_ n6_ n7_ n8_; (try clear hb); (try clear hb2); (try clear hk); (try clear hi); (try clear ho0); (try clear ho1)) | ((with_reducible refine gate_dst (N := 9) rfl ?_); refine box_event ?hg (N := 9) ?hd (cs := #[.slice none 0 0, .slice none 0 0]) (t := 30) ?hr ?_; (case hd => rfl); (case hg => rfl); (case hr => first | (go_simp; done) | (go_simp; rfl)); intro gb587 hg w45 hbox hb; have n0_ := Aside0.mk (Kd.R_below (by (with_reducible repeat (first | apply Kd.R_alloc | apply Kd.R_drewN | apply Kd.R_drew)); exact HO_567000.out) hb); have n1_ := Aside0.mk (Kd.R_below (by (with_reducible repeat (first | apply Kd.R_alloc | apply Kd.R_drewN | apply Kd.R_drew)); exact HO_567001.out) hb); have n2_ := Aside0.mk (Kd.R_below (by (with_reducible repeat (first | apply Kd.R_alloc | apply Kd.R_drewN | apply Kd.R_drew)); exact HO_575000.out) hb); have n3_ := Aside0.mk (Kd.R_below (by (with_reducible repeat (first | apply Kd.R_alloc | apply Kd.R_drewN | apply Kd.R_drew)); exact HO_575001.out) hb); have n4_ := Aside0.mk (Kd.R_below (by (with_reducible repeat (first | apply Kd.R_alloc | apply Kd.R_drewN | apply Kd.R_drew)); exact HO582.out) hb); have n5_ := Aside0.mk (Kd.R_below (by (with_reducible repeat (first | apply Kd.R_alloc | apply Kd.R_drewN | apply Kd.R_drew)); exact HO585.out) hb); have n6_ := Aside0.mk (blk_below (g := gb566) (o := .cells #[.slice Ao8 t559.length co8, .slice Ao10 t562.length co10] 30 (0, 0)) (by (with_reducible repeat (first | refine blk_drewN ?_ _ | refine blk_drew ?_ | refine blk_alloc ?_ _)); exact BK566.out) hb); have n7_ := Aside0.mk (blk_below (g := gb574) (o := .cells #[.slice Ao13 t567.length co13, .slice Ao16 t570.length co16] 30 (0, 0)) (by (with_reducible repeat (first | refine blk_drewN ?_ _ | refine blk_drew ?_ | refine blk_alloc ?_ _)); exact BK574.out) hb); have n8_ := Aside0.mk (below_step (by repeat (first | (with_reducible first | exact HB.out | apply below_alloc | apply pw_below_drewN | apply below_drew1 | refine below_set ?_ GE566.out | refine below_set ?_ GE574.out) | exact HB.out)) hb); have n9_ := Aside0.mk (hbox); have n10_ := Aside0.mk ((by rw [hg]; exact (below_size (by repeat (first | (with_reducible first | exact HB.out | apply below_alloc | apply pw_below_drewN | apply below_drew1 | refine below_set ?_ GE566.out | refine below_set ?_ GE574.out) | exact HB.out))) : w.heap.size ≤ gb587)); have n11_ := Aside0.mk ((by rw [hg]; exact (below_size (by repeat (first | (with_reducible first | exact HB.out | apply below_alloc | apply pw_below_drewN | apply below_drew1 | refine below_set ?_ GE566.out | refine below_set ?_ GE574.out) | exact HB.out))) : w.heap.size ≤ gb587)); have n12_ := Aside0.mk ((by rw [hg]; exact Nat.ne_of_lt (blk_lt (g := gb566) (o := .cells #[.slice Ao8 t559.length co8, .slice Ao10 t562.length co10] 30 (0, 0)) (by (with_reducible repeat (first | refine blk_drewN ?_ _ | refine blk_drew ?_ | refine blk_alloc ?_ _)); exact BK566.out)) : gb566 ≠ gb587)); have n13_ := Aside0.mk ((by rw [hg]; exact Nat.ne_of_gt (blk_lt (g := gb566) (o := .cells #[.slice Ao8 t559.length co8, .slice Ao10 t562.length co10] 30 (0, 0)) (by (with_reducible repeat (first | refine blk_drewN ?_ _ | refine blk_drew ?_ | refine blk_alloc ?_ _)); exact BK566.out)) : gb587 ≠ gb566)); have n14_ := Aside0.mk ((by rw [hg]; exact Nat.ne_of_lt (blk_lt (g := gb574) (o := .cells #[.slice Ao13 t567.length co13, .slice Ao16 t570.length co16] 30 (0, 0)) (by (with_reducible repeat (first | refine blk_drewN ?_ _ | refine blk_drew ?_ | refine blk_alloc ?_ _)); exact BK574.out)) : gb574 ≠ gb587)); have n15_ := Aside0.mk ((by rw [hg]; exact Nat.ne_of_gt (blk_lt (g := gb574) (o := .cells #[.slice Ao13 t567.length co13, .slice Ao16 t570.length co16] 30 (0, 0)) (by (with_reducible repeat (first | refine blk_drewN ?_ _ | refine blk_drew ?_ | refine blk_alloc ?_ _)); exact BK574.out)) : gb587 ≠ gb574)); clear HO_567000; clear HO_567001; clear HO_575000; clear HO_575001; clear HO582; clear HO585; clear BK566; clear BK574; clear HB; have HO_567000 := n0_; have HO_567001 := n1_; have HO_575000 := n2_; have HO_575001 := n3_; have HO582 := n4_; have HO585 := n5_; have BK566 := n6_; have BK574 := n7_; have HB := n8_; have BK587 := n9_; have GW587 := n10_; have GE587 := n11_; have NB566_587 := n12_; have NB587_566 := n13_; have NB574_587 := n14_; have NB587_574 := n15_; clear n0_ n1_ n2_ n3_ n4_ n5_ n6_ n7_ n8_ n9_ n10_ n11_ n12_ n13_ n14_ n15_; clear hb hbox hg; obtain ⟨Ao46, co46, eo46⟩ := Kd.R_slice HO582.out; subst eo46; have hnb47 := NB587_566.out; have hnc47 := NB566_587.out; have hnb48 := NB587_574.out; have hnc48 := NB574_587.out; have hcz49_0 : w45.cell? ⟨gb587, 0, none⟩ = some (.slice none 0 0) := (blk_cell BK587.out 0).trans rfl; have hcz49_1 : w45.cell? ⟨gb587, 1, none⟩ = some (.slice none 0 0) := (blk_cell BK587.out 1).trans rfl; have hfz49_0 := blk_frozen BK587.out 0; have hfz49_1 := blk_frozen BK587.out 1; obtain ⟨Ao50, co50, eo50⟩ := Kd.R_slice HO585.out; subst eo50))
              (try simp only [Act.put, List.setIfInBounds_toArray, List.set_cons_zero, List.set_cons_succ])
              go_cut [57] (fun v57 wc => ∃ (kq : Nat) (x57_37 : Bool), v57 = .bool x57_37 ∧ Aside0 (laws_FnExactReadSystem.j1 kq t576 x57_37 t577 t578 = some true) ∧ Aside0 (kq ≤ kj4) ∧ Aside0 (Kd.R k56 56 wc w.heap.size (fun k_ => some k_ ≠ ((.slice Ao13 t567.length co13) : Value).ownBlock ∧ some k_ ≠ ((.slice Ao46 t580.length co46) : Value).ownBlock) (.slice Ao8 t559.length co8) t559) ∧ Aside0 (Kd.R k59 59 wc w.heap.size (fun k_ => some k_ ≠ ((.slice Ao16 t570.length co16) : Value).ownBlock ∧ some k_ ≠ ((.slice Ao50 t583.length co50) : Value).ownBlock) (.slice Ao10 t562.length co10) t562) ∧ Aside0 (Kd.R k56 56 wc w.heap.size (fun k_ => some k_ ≠ ((.slice Ao8 t559.length co8) : Value).ownBlock ∧ some k_ ≠ ((.slice Ao46 t580.length co46) : Value).ownBlock) (.slice Ao13 t567.length co13) t577) ∧ Aside0 (Kd.R k59 59 wc w.heap.size (fun k_ => some k_ ≠ ((.slice Ao10 t562.length co10) : Value).ownBlock ∧ some k_ ≠ ((.slice Ao50 t583.length co50) : Value).ownBlock) (.slice Ao16 t570.length co16) t578) ∧ Aside0 (Kd.R k56 56 wc w.heap.size (fun k_ => some k_ ≠ ((.slice Ao8 t559.length co8) : Value).ownBlock ∧ some k_ ≠ ((.slice Ao13 t567.length co13) : Value).ownBlock) (.slice Ao46 t580.length co46) t580) ∧ Aside0 (Kd.R k59 59 wc w.heap.size (fun k_ => some k_ ≠ ((.slice Ao10 t562.length co10) : Value).ownBlock ∧ some k_ ≠ ((.slice Ao16 t570.length co16) : Value).ownBlock) (.slice Ao50 t583.length co50) t583) ∧ Aside0 (wc.heap[gb566]? = some (.cells #[(.slice Ao8 t559.length co8), (.slice Ao10 t562.length co10)] 30 (0, 0))) ∧ Aside0 (wc.heap[gb574]? = some (.cells #[(.slice Ao13 t567.length co13), (.slice Ao16 t570.length co16)] 30 (0, 0))) ∧ Aside0 (wc.heap[gb587]? = some (.cells #[(.slice Ao46 t580.length co46), (.slice Ao50 t583.length co50)] 30 (0, 0))) ∧ Aside0 (Below w.heap.size w wc))
              case first =>
                have H := HC38.out
                clear HC38
                replace H := Option.bind_eq_some_iff.mp H
                obtain ⟨t588, A510, H⟩ := H
                replace H : (if t588 = true then (laws_FnExactReadSystem.j1 kj4 t576 (t586 != t565) t577 t578) else (laws_FnExactReadSystem.j1 kj4 t576 true t577 t578)) = some true := H
                have A51 := Aside0.mk A510
                clear A510
                by_cases c52 : t588 = true
                · subst c52
                  have H1 : (laws_FnExactReadSystem.j1 kj4 t576 (t586 != t565) t577 t578) = some true := by rw [if_pos rfl] at H; exact H
                  clear H
                  have H := H1
                  clear H1
                  have H' := Aside0.mk H
                  clear H
                  have hnb53 := NB587_566.out
                  have hnc53 := NB566_587.out
                  have hnb54 := NB587_574.out
                  have hnc54 := NB574_587.out
                  have hcz55_0 : w45.cell? ⟨gb587, 0, none⟩ = some (.slice none 0 0) := (blk_cell BK587.out 0).trans rfl
                  have hcz55_1 : w45.cell? ⟨gb587, 1, none⟩ = some (.slice none 0 0) := (blk_cell BK587.out 1).trans rfl
                  have hfz55_0 := blk_frozen BK587.out 0
                  have hfz55_1 := blk_frozen BK587.out 1
                  have hnb56 := NB566_574.out
                  have hnc56 := NB574_566.out
                  have hcz57_0 : w45.cell? ⟨gb566, 0, none⟩ = some (.slice Ao8 t559.length co8) := (blk_cell BK566.out 0).trans rfl
                  have hcz57_1 : w45.cell? ⟨gb566, 1, none⟩ = some (.slice Ao10 t562.length co10) := (blk_cell BK566.out 1).trans rfl
                  have hfz57_0 := blk_frozen BK566.out 0
                  have hfz57_1 := blk_frozen BK566.out 1
                  go_wp2_with (first | ((with_reducible refine gate_callee (f := 11) rfl ?_); refine goesL_ (some 51) rfl rfl Tryd.func11 (by kernel_rfl) rfl #[.agg #[.slice Ao46 t580.length co46, .slice Ao50 t583.length co50], .agg #[.slice Ao8 t559.length co8, .slice Ao10 t562.length co10]] rfl (by (try simp only [List.map_toArray, List.map_cons, List.map_nil]); first | done | rfl | (simp only [List.length_drop, List.length_take]; rfl)) ?_; (with_reducible refine (laws_eqSystem.calls kj4 _ _ t580 _ _ t583 _ _ t559 _ _ t562 true _ ?side1 ?side2 ?side3 ?side4 ?side5 ?side6 ?side7 ?side8 A51.out).mono ?_); (case side1 => refine (Kd.R_reads' (e := 56) (base := w.heap.size) (ok := fun k_ => ((True ∧ some k_ ≠ (.slice Ao8 t559.length co8 : Value).ownBlock) ∧ some k_ ≠ (.slice Ao13 t567.length co13 : Value).ownBlock)) (n := t580.length) (c := co46) ?_).2.2; exact (by (with_reducible repeat (first | apply Kd.R_alloc | apply Kd.R_drewN | apply Kd.R_drew)); exact (Kd.R_mono (Kd.R_far (p := ⟨gb587, 1, none⟩) (Kd.R_far (p := ⟨gb587, 0, none⟩) (Kd.R_types HO582.out BK587.out (by decide)) (fun _ hk => hk.2) (.slice Ao46 t580.length co46)) (fun _ hk => hk.2) (.slice Ao50 t583.length co50)) (fun _ h_ => h_.1)))); (case side2 => exact (Kd.R_reads' HO582.out).2.1); (case side3 => refine (Kd.R_reads' (e := 59) (base := w.heap.size) (ok := fun k_ => ((True ∧ some k_ ≠ (.slice Ao10 t562.length co10 : Value).ownBlock) ∧ some k_ ≠ (.slice Ao16 t570.length co16 : Value).ownBlock)) (n := t583.length) (c := co50) ?_).2.2; exact (by (with_reducible repeat (first | apply Kd.R_alloc | apply Kd.R_drewN | apply Kd.R_drew)); exact (Kd.R_mono (Kd.R_far (p := ⟨gb587, 1, none⟩) (Kd.R_far (p := ⟨gb587, 0, none⟩) (Kd.R_types HO585.out BK587.out (by decide)) (fun _ hk => hk.2) (.slice Ao46 t580.length co46)) (fun _ hk => hk.2) (.slice Ao50 t583.length co50)) (fun _ h_ => h_.1)))); (case side4 => exact (Kd.R_reads' HO585.out).2.1); (case side5 => refine (Kd.R_reads' (e := 56) (base := w.heap.size) (ok := fun k_ => (some k_ ≠ (.slice Ao13 t567.length co13 : Value).ownBlock ∧ some k_ ≠ (.slice Ao46 t580.length co46 : Value).ownBlock)) (n := t559.length) (c := co8) ?_).2.2; exact (by (with_reducible repeat (first | apply Kd.R_alloc | apply Kd.R_drewN | apply Kd.R_drew)); exact (Kd.R_mono (Kd.R_far (p := ⟨gb587, 1, none⟩) (Kd.R_far (p := ⟨gb587, 0, none⟩) (Kd.R_types HO_567000.out BK587.out (by decide)) (fun _ hk => hk.2) (.slice Ao46 t580.length co46)) (fun _ hk => hk.2) (.slice Ao50 t583.length co50)) (fun _ h_ => h_.1)))); (case side6 => exact (Kd.R_reads' HO_567000.out).2.1); (case side7 => refine (Kd.R_reads' (e := 59) (base := w.heap.size) (ok := fun k_ => (some k_ ≠ (.slice Ao16 t570.length co16 : Value).ownBlock ∧ some k_ ≠ (.slice Ao50 t583.length co50 : Value).ownBlock)) (n := t562.length) (c := co10) ?_).2.2; exact (by (with_reducible repeat (first | apply Kd.R_alloc | apply Kd.R_drewN | apply Kd.R_drew)); exact (Kd.R_mono (Kd.R_far (p := ⟨gb587, 1, none⟩) (Kd.R_far (p := ⟨gb587, 0, none⟩) (Kd.R_types HO_567001.out BK587.out (by decide)) (fun _ hk => hk.2) (.slice Ao46 t580.length co46)) (fun _ hk => hk.2) (.slice Ao50 t583.length co50)) (fun _ h_ => h_.1)))); (case side8 => exact (Kd.R_reads' HO_567001.out).2.1); rintro e w58 ⟨rfl, hb⟩; refine ⟨_, rfl, ?_⟩; have n0_ := Aside0.mk (Kd.R_below (by (with_reducible repeat (first | apply Kd.R_alloc | apply Kd.R_drewN | apply Kd.R_drew)); exact (Kd.R_mono (Kd.R_far (p := ⟨gb587, 1, none⟩) (Kd.R_far (p := ⟨gb587, 0, none⟩) (Kd.R_types HO_567000.out BK587.out (by decide)) (fun _ hk => hk.2) (.slice Ao46 t580.length co46)) (fun _ hk => hk.2) (.slice Ao50 t583.length co50)) (fun _ h_ => h_.1))) hb); have n1_ := Aside0.mk (Kd.R_below (by (with_reducible repeat (first | apply Kd.R_alloc | apply Kd.R_drewN | apply Kd.R_drew)); exact (Kd.R_mono (Kd.R_far (p := ⟨gb587, 1, none⟩) (Kd.R_far (p := ⟨gb587, 0, none⟩) (Kd.R_types HO_567001.out BK587.out (by decide)) (fun _ hk => hk.2) (.slice Ao46 t580.length co46)) (fun _ hk => hk.2) (.slice Ao50 t583.length co50)) (fun _ h_ => h_.1))) hb); have n2_ := Aside0.mk (Kd.R_below (by (with_reducible repeat (first | apply Kd.R_alloc | apply Kd.R_drewN | apply Kd.R_drew)); exact (Kd.R_mono (Kd.R_far (p := ⟨gb587, 1, none⟩) (Kd.R_far (p := ⟨gb587, 0, none⟩) (Kd.R_types HO_575000.out BK587.out (by decide)) (fun _ hk => hk.2) (.slice Ao46 t580.length co46)) (fun _ hk => hk.2) (.slice Ao50 t583.length co50)) (fun _ h_ => h_.1))) hb); have n3_ := Aside0.mk (Kd.R_below (by (with_reducible repeat (first | apply Kd.R_alloc | apply Kd.R_drewN | apply Kd.R_drew)); exact (Kd.R_mono (Kd.R_far (p := ⟨gb587, 1, none⟩) (Kd.R_far (p := ⟨gb587, 0, none⟩) (Kd.R_types HO_575001.out BK587.out (by decide)) (fun _ hk => hk.2) (.slice Ao46 t580.length co46)) (fun _ hk => hk.2) (.slice Ao50 t583.length co50)) (fun _ h_ => h_.1))) hb); have n4_ := Aside0.mk (Kd.R_below (by (with_reducible repeat (first | apply Kd.R_alloc | apply Kd.R_drewN | apply Kd.R_drew)); exact (Kd.R_mono (Kd.R_far (p := ⟨gb587, 1, none⟩) (Kd.R_far (p := ⟨gb587, 0, none⟩) (Kd.R_types HO582.out BK587.out (by decide)) (fun _ hk => hk.2) (.slice Ao46 t580.length co46)) (fun _ hk => hk.2) (.slice Ao50 t583.length co50)) (fun _ h_ => h_.1))) hb); have n5_ := Aside0.mk (Kd.R_below (by (with_reducible repeat (first | apply Kd.R_alloc | apply Kd.R_drewN | apply Kd.R_drew)); exact (Kd.R_mono (Kd.R_far (p := ⟨gb587, 1, none⟩) (Kd.R_far (p := ⟨gb587, 0, none⟩) (Kd.R_types HO585.out BK587.out (by decide)) (fun _ hk => hk.2) (.slice Ao46 t580.length co46)) (fun _ hk => hk.2) (.slice Ao50 t583.length co50)) (fun _ h_ => h_.1))) hb); have n6_ := Aside0.mk (blk_below (g := gb566) (o := .cells #[.slice Ao8 t559.length co8, .slice Ao10 t562.length co10] 30 (0, 0)) (by (with_reducible repeat (first | refine blk_drewN ?_ _ | refine blk_drew ?_ | refine blk_alloc ?_ _)); refine blk_far ?_ NB566_587.out _; (with_reducible repeat (first | refine blk_drewN ?_ _ | refine blk_drew ?_ | refine blk_alloc ?_ _)); refine blk_far ?_ NB566_587.out _; (with_reducible repeat (first | refine blk_drewN ?_ _ | refine blk_drew ?_ | refine blk_alloc ?_ _)); exact BK566.out) hb); have n7_ := Aside0.mk (blk_below (g := gb574) (o := .cells #[.slice Ao13 t567.length co13, .slice Ao16 t570.length co16] 30 (0, 0)) (by (with_reducible repeat (first | refine blk_drewN ?_ _ | refine blk_drew ?_ | refine blk_alloc ?_ _)); refine blk_far ?_ NB574_587.out _; (with_reducible repeat (first | refine blk_drewN ?_ _ | refine blk_drew ?_ | refine blk_alloc ?_ _)); refine blk_far ?_ NB574_587.out _; (with_reducible repeat (first | refine blk_drewN ?_ _ | refine blk_drew ?_ | refine blk_alloc ?_ _)); exact BK574.out) hb); have n8_ := Aside0.mk (blk_below (g := gb587) (o := .cells #[.slice Ao46 t580.length co46, .slice Ao50 t583.length co50] 30 (0, 0)) (by (with_reducible repeat (first | refine blk_drewN ?_ _ | refine blk_drew ?_ | refine blk_alloc ?_ _)); refine blk_put (cs := #[.slice Ao46 t580.length co46, .slice none 0 0]) ?_ 1 _ rfl; (with_reducible repeat (first | refine blk_drewN ?_ _ | refine blk_drew ?_ | refine blk_alloc ?_ _)); refine blk_put (cs := #[.slice none 0 0, .slice none 0 0]) ?_ 0 _ rfl; (with_reducible repeat (first | refine blk_drewN ?_ _ | refine blk_drew ?_ | refine blk_alloc ?_ _)); exact BK587.out) hb); have n9_ := Aside0.mk (below_step (by repeat (first | (with_reducible first | exact HB.out | apply below_alloc | apply pw_below_drewN | apply below_drew1 | refine below_set ?_ GE566.out | refine below_set ?_ GE574.out | refine below_set ?_ GE587.out) | exact HB.out)) hb); clear HO_567000; clear HO_567001; clear HO_575000; clear HO_575001; clear HO582; clear HO585; clear BK566; clear BK574; clear BK587; clear HB; have HO_567000 := n0_; have HO_567001 := n1_; have HO_575000 := n2_; have HO_575001 := n3_; have HO582 := n4_; have HO585 := n5_; have BK566 := n6_; have BK574 := n7_; have BK587 := n8_; have HB := n9_; clear n0_ n1_ n2_ n3_ n4_ n5_ n6_ n7_ n8_ n9_; (try clear hb); (try clear hb2); (try clear hk); (try clear hi)))
                  go_meet
                  case rel => exact ⟨_, ((t586 != t565)), (by first | rfl | (simp; done) | (simp [*]; done)), H', ⟨by have := HJ4.out; first | omega | exact Nat.le_refl _⟩, ⟨by (with_reducible repeat (first | apply Kd.R_alloc | apply Kd.R_drewN | apply Kd.R_drew)); exact HO_567000.out⟩, ⟨by (with_reducible repeat (first | apply Kd.R_alloc | apply Kd.R_drewN | apply Kd.R_drew)); exact HO_567001.out⟩, ⟨by (with_reducible repeat (first | apply Kd.R_alloc | apply Kd.R_drewN | apply Kd.R_drew)); exact HO_575000.out⟩, ⟨by (with_reducible repeat (first | apply Kd.R_alloc | apply Kd.R_drewN | apply Kd.R_drew)); exact HO_575001.out⟩, ⟨by (with_reducible repeat (first | apply Kd.R_alloc | apply Kd.R_drewN | apply Kd.R_drew)); exact Kd.R_mono HO582.out (fun _ hk => ⟨hk.1.2, hk.2⟩)⟩, ⟨by (with_reducible repeat (first | apply Kd.R_alloc | apply Kd.R_drewN | apply Kd.R_drew)); exact Kd.R_mono HO585.out (fun _ hk => ⟨hk.1.2, hk.2⟩)⟩, ⟨by (with_reducible repeat (first | refine blk_drewN ?_ _ | refine blk_drew ?_ | refine blk_alloc ?_ _)); exact BK566.out⟩, ⟨by (with_reducible repeat (first | refine blk_drewN ?_ _ | refine blk_drew ?_ | refine blk_alloc ?_ _)); exact BK574.out⟩, ⟨by (with_reducible repeat (first | refine blk_drewN ?_ _ | refine blk_drew ?_ | refine blk_alloc ?_ _)); exact BK587.out⟩, ⟨by repeat (first | (with_reducible first | exact HB.out | apply below_alloc | apply pw_below_drewN | apply below_drew1 | refine below_set ?_ GE566.out | refine below_set ?_ GE574.out | refine below_set ?_ GE587.out) | exact HB.out)⟩⟩
                · replace c52 := Bool.eq_false_iff.mpr c52
                  subst c52
                  have H1 : (laws_FnExactReadSystem.j1 kj4 t576 true t577 t578) = some true := by rw [if_neg (show ¬ (false = true) by decide)] at H; exact H
                  clear H
                  have H := H1
                  clear H1
                  have H' := Aside0.mk H
                  clear H
                  have hnb59 := NB587_566.out
                  have hnc59 := NB566_587.out
                  have hnb60 := NB587_574.out
                  have hnc60 := NB574_587.out
                  have hcz61_0 : w45.cell? ⟨gb587, 0, none⟩ = some (.slice none 0 0) := (blk_cell BK587.out 0).trans rfl
                  have hcz61_1 : w45.cell? ⟨gb587, 1, none⟩ = some (.slice none 0 0) := (blk_cell BK587.out 1).trans rfl
                  have hfz61_0 := blk_frozen BK587.out 0
                  have hfz61_1 := blk_frozen BK587.out 1
                  have hnb62 := NB566_574.out
                  have hnc62 := NB574_566.out
                  have hcz63_0 : w45.cell? ⟨gb566, 0, none⟩ = some (.slice Ao8 t559.length co8) := (blk_cell BK566.out 0).trans rfl
                  have hcz63_1 : w45.cell? ⟨gb566, 1, none⟩ = some (.slice Ao10 t562.length co10) := (blk_cell BK566.out 1).trans rfl
                  have hfz63_0 := blk_frozen BK566.out 0
                  have hfz63_1 := blk_frozen BK566.out 1
                  go_wp2_with (first | ((with_reducible refine gate_callee (f := 11) rfl ?_); refine goesL_ (some 51) rfl rfl Tryd.func11 (by kernel_rfl) rfl #[.agg #[.slice Ao46 t580.length co46, .slice Ao50 t583.length co50], .agg #[.slice Ao8 t559.length co8, .slice Ao10 t562.length co10]] rfl (by (try simp only [List.map_toArray, List.map_cons, List.map_nil]); first | done | rfl | (simp only [List.length_drop, List.length_take]; rfl)) ?_; (with_reducible refine (laws_eqSystem.calls kj4 _ _ t580 _ _ t583 _ _ t559 _ _ t562 false _ ?side1 ?side2 ?side3 ?side4 ?side5 ?side6 ?side7 ?side8 A51.out).mono ?_); (case side1 => refine (Kd.R_reads' (e := 56) (base := w.heap.size) (ok := fun k_ => ((True ∧ some k_ ≠ (.slice Ao8 t559.length co8 : Value).ownBlock) ∧ some k_ ≠ (.slice Ao13 t567.length co13 : Value).ownBlock)) (n := t580.length) (c := co46) ?_).2.2; exact (by (with_reducible repeat (first | apply Kd.R_alloc | apply Kd.R_drewN | apply Kd.R_drew)); exact (Kd.R_mono (Kd.R_far (p := ⟨gb587, 1, none⟩) (Kd.R_far (p := ⟨gb587, 0, none⟩) (Kd.R_types HO582.out BK587.out (by decide)) (fun _ hk => hk.2) (.slice Ao46 t580.length co46)) (fun _ hk => hk.2) (.slice Ao50 t583.length co50)) (fun _ h_ => h_.1)))); (case side2 => exact (Kd.R_reads' HO582.out).2.1); (case side3 => refine (Kd.R_reads' (e := 59) (base := w.heap.size) (ok := fun k_ => ((True ∧ some k_ ≠ (.slice Ao10 t562.length co10 : Value).ownBlock) ∧ some k_ ≠ (.slice Ao16 t570.length co16 : Value).ownBlock)) (n := t583.length) (c := co50) ?_).2.2; exact (by (with_reducible repeat (first | apply Kd.R_alloc | apply Kd.R_drewN | apply Kd.R_drew)); exact (Kd.R_mono (Kd.R_far (p := ⟨gb587, 1, none⟩) (Kd.R_far (p := ⟨gb587, 0, none⟩) (Kd.R_types HO585.out BK587.out (by decide)) (fun _ hk => hk.2) (.slice Ao46 t580.length co46)) (fun _ hk => hk.2) (.slice Ao50 t583.length co50)) (fun _ h_ => h_.1)))); (case side4 => exact (Kd.R_reads' HO585.out).2.1); (case side5 => refine (Kd.R_reads' (e := 56) (base := w.heap.size) (ok := fun k_ => (some k_ ≠ (.slice Ao13 t567.length co13 : Value).ownBlock ∧ some k_ ≠ (.slice Ao46 t580.length co46 : Value).ownBlock)) (n := t559.length) (c := co8) ?_).2.2; exact (by (with_reducible repeat (first | apply Kd.R_alloc | apply Kd.R_drewN | apply Kd.R_drew)); exact (Kd.R_mono (Kd.R_far (p := ⟨gb587, 1, none⟩) (Kd.R_far (p := ⟨gb587, 0, none⟩) (Kd.R_types HO_567000.out BK587.out (by decide)) (fun _ hk => hk.2) (.slice Ao46 t580.length co46)) (fun _ hk => hk.2) (.slice Ao50 t583.length co50)) (fun _ h_ => h_.1)))); (case side6 => exact (Kd.R_reads' HO_567000.out).2.1); (case side7 => refine (Kd.R_reads' (e := 59) (base := w.heap.size) (ok := fun k_ => (some k_ ≠ (.slice Ao16 t570.length co16 : Value).ownBlock ∧ some k_ ≠ (.slice Ao50 t583.length co50 : Value).ownBlock)) (n := t562.length) (c := co10) ?_).2.2; exact (by (with_reducible repeat (first | apply Kd.R_alloc | apply Kd.R_drewN | apply Kd.R_drew)); exact (Kd.R_mono (Kd.R_far (p := ⟨gb587, 1, none⟩) (Kd.R_far (p := ⟨gb587, 0, none⟩) (Kd.R_types HO_567001.out BK587.out (by decide)) (fun _ hk => hk.2) (.slice Ao46 t580.length co46)) (fun _ hk => hk.2) (.slice Ao50 t583.length co50)) (fun _ h_ => h_.1)))); (case side8 => exact (Kd.R_reads' HO_567001.out).2.1); rintro e w64 ⟨rfl, hb⟩; refine ⟨_, rfl, ?_⟩; have n0_ := Aside0.mk (Kd.R_below (by (with_reducible repeat (first | apply Kd.R_alloc | apply Kd.R_drewN | apply Kd.R_drew)); exact (Kd.R_mono (Kd.R_far (p := ⟨gb587, 1, none⟩) (Kd.R_far (p := ⟨gb587, 0, none⟩) (Kd.R_types HO_567000.out BK587.out (by decide)) (fun _ hk => hk.2) (.slice Ao46 t580.length co46)) (fun _ hk => hk.2) (.slice Ao50 t583.length co50)) (fun _ h_ => h_.1))) hb); have n1_ := Aside0.mk (Kd.R_below (by (with_reducible repeat (first | apply Kd.R_alloc | apply Kd.R_drewN | apply Kd.R_drew)); exact (Kd.R_mono (Kd.R_far (p := ⟨gb587, 1, none⟩) (Kd.R_far (p := ⟨gb587, 0, none⟩) (Kd.R_types HO_567001.out BK587.out (by decide)) (fun _ hk => hk.2) (.slice Ao46 t580.length co46)) (fun _ hk => hk.2) (.slice Ao50 t583.length co50)) (fun _ h_ => h_.1))) hb); have n2_ := Aside0.mk (Kd.R_below (by (with_reducible repeat (first | apply Kd.R_alloc | apply Kd.R_drewN | apply Kd.R_drew)); exact (Kd.R_mono (Kd.R_far (p := ⟨gb587, 1, none⟩) (Kd.R_far (p := ⟨gb587, 0, none⟩) (Kd.R_types HO_575000.out BK587.out (by decide)) (fun _ hk => hk.2) (.slice Ao46 t580.length co46)) (fun _ hk => hk.2) (.slice Ao50 t583.length co50)) (fun _ h_ => h_.1))) hb); have n3_ := Aside0.mk (Kd.R_below (by (with_reducible repeat (first | apply Kd.R_alloc | apply Kd.R_drewN | apply Kd.R_drew)); exact (Kd.R_mono (Kd.R_far (p := ⟨gb587, 1, none⟩) (Kd.R_far (p := ⟨gb587, 0, none⟩) (Kd.R_types HO_575001.out BK587.out (by decide)) (fun _ hk => hk.2) (.slice Ao46 t580.length co46)) (fun _ hk => hk.2) (.slice Ao50 t583.length co50)) (fun _ h_ => h_.1))) hb); have n4_ := Aside0.mk (Kd.R_below (by (with_reducible repeat (first | apply Kd.R_alloc | apply Kd.R_drewN | apply Kd.R_drew)); exact (Kd.R_mono (Kd.R_far (p := ⟨gb587, 1, none⟩) (Kd.R_far (p := ⟨gb587, 0, none⟩) (Kd.R_types HO582.out BK587.out (by decide)) (fun _ hk => hk.2) (.slice Ao46 t580.length co46)) (fun _ hk => hk.2) (.slice Ao50 t583.length co50)) (fun _ h_ => h_.1))) hb); have n5_ := Aside0.mk (Kd.R_below (by (with_reducible repeat (first | apply Kd.R_alloc | apply Kd.R_drewN | apply Kd.R_drew)); exact (Kd.R_mono (Kd.R_far (p := ⟨gb587, 1, none⟩) (Kd.R_far (p := ⟨gb587, 0, none⟩) (Kd.R_types HO585.out BK587.out (by decide)) (fun _ hk => hk.2) (.slice Ao46 t580.length co46)) (fun _ hk => hk.2) (.slice Ao50 t583.length co50)) (fun _ h_ => h_.1))) hb); have n6_ := Aside0.mk (blk_below (g := gb566) (o := .cells #[.slice Ao8 t559.length co8, .slice Ao10 t562.length co10] 30 (0, 0)) (by (with_reducible repeat (first | refine blk_drewN ?_ _ | refine blk_drew ?_ | refine blk_alloc ?_ _)); refine blk_far ?_ NB566_587.out _; (with_reducible repeat (first | refine blk_drewN ?_ _ | refine blk_drew ?_ | refine blk_alloc ?_ _)); refine blk_far ?_ NB566_587.out _; (with_reducible repeat (first | refine blk_drewN ?_ _ | refine blk_drew ?_ | refine blk_alloc ?_ _)); exact BK566.out) hb); have n7_ := Aside0.mk (blk_below (g := gb574) (o := .cells #[.slice Ao13 t567.length co13, .slice Ao16 t570.length co16] 30 (0, 0)) (by (with_reducible repeat (first | refine blk_drewN ?_ _ | refine blk_drew ?_ | refine blk_alloc ?_ _)); refine blk_far ?_ NB574_587.out _; (with_reducible repeat (first | refine blk_drewN ?_ _ | refine blk_drew ?_ | refine blk_alloc ?_ _)); refine blk_far ?_ NB574_587.out _; (with_reducible repeat (first | refine blk_drewN ?_ _ | refine blk_drew ?_ | refine blk_alloc ?_ _)); exact BK574.out) hb); have n8_ := Aside0.mk (blk_below (g := gb587) (o := .cells #[.slice Ao46 t580.length co46, .slice Ao50 t583.length co50] 30 (0, 0)) (by (with_reducible repeat (first | refine blk_drewN ?_ _ | refine blk_drew ?_ | refine blk_alloc ?_ _)); refine blk_put (cs := #[.slice Ao46 t580.length co46, .slice none 0 0]) ?_ 1 _ rfl; (with_reducible repeat (first | refine blk_drewN ?_ _ | refine blk_drew ?_ | refine blk_alloc ?_ _)); refine blk_put (cs := #[.slice none 0 0, .slice none 0 0]) ?_ 0 _ rfl; (with_reducible repeat (first | refine blk_drewN ?_ _ | refine blk_drew ?_ | refine blk_alloc ?_ _)); exact BK587.out) hb); have n9_ := Aside0.mk (below_step (by repeat (first | (with_reducible first | exact HB.out | apply below_alloc | apply pw_below_drewN | apply below_drew1 | refine below_set ?_ GE566.out | refine below_set ?_ GE574.out | refine below_set ?_ GE587.out) | exact HB.out)) hb); clear HO_567000; clear HO_567001; clear HO_575000; clear HO_575001; clear HO582; clear HO585; clear BK566; clear BK574; clear BK587; clear HB; have HO_567000 := n0_; have HO_567001 := n1_; have HO_575000 := n2_; have HO_575001 := n3_; have HO582 := n4_; have HO585 := n5_; have BK566 := n6_; have BK574 := n7_; have BK587 := n8_; have HB := n9_; clear n0_ n1_ n2_ n3_ n4_ n5_ n6_ n7_ n8_ n9_; (try clear hb); (try clear hb2); (try clear hk); (try clear hi)))
                  go_meet
                  case rel => exact ⟨_, (true), (by first | rfl | (simp; done) | (simp [*]; done)), H', ⟨by have := HJ4.out; first | omega | exact Nat.le_refl _⟩, ⟨by (with_reducible repeat (first | apply Kd.R_alloc | apply Kd.R_drewN | apply Kd.R_drew)); exact HO_567000.out⟩, ⟨by (with_reducible repeat (first | apply Kd.R_alloc | apply Kd.R_drewN | apply Kd.R_drew)); exact HO_567001.out⟩, ⟨by (with_reducible repeat (first | apply Kd.R_alloc | apply Kd.R_drewN | apply Kd.R_drew)); exact HO_575000.out⟩, ⟨by (with_reducible repeat (first | apply Kd.R_alloc | apply Kd.R_drewN | apply Kd.R_drew)); exact HO_575001.out⟩, ⟨by (with_reducible repeat (first | apply Kd.R_alloc | apply Kd.R_drewN | apply Kd.R_drew)); exact Kd.R_mono HO582.out (fun _ hk => ⟨hk.1.2, hk.2⟩)⟩, ⟨by (with_reducible repeat (first | apply Kd.R_alloc | apply Kd.R_drewN | apply Kd.R_drew)); exact Kd.R_mono HO585.out (fun _ hk => ⟨hk.1.2, hk.2⟩)⟩, ⟨by (with_reducible repeat (first | refine blk_drewN ?_ _ | refine blk_drew ?_ | refine blk_alloc ?_ _)); exact BK566.out⟩, ⟨by (with_reducible repeat (first | refine blk_drewN ?_ _ | refine blk_drew ?_ | refine blk_alloc ?_ _)); exact BK574.out⟩, ⟨by (with_reducible repeat (first | refine blk_drewN ?_ _ | refine blk_drew ?_ | refine blk_alloc ?_ _)); exact BK587.out⟩, ⟨by repeat (first | (with_reducible first | exact HB.out | apply below_alloc | apply pw_below_drewN | apply below_drew1 | refine below_set ?_ GE566.out | refine below_set ?_ GE574.out | refine below_set ?_ GE587.out) | exact HB.out)⟩⟩
              case rest =>
                clear HC38
                try clear c1
                try clear c2
                try clear c2b0
                try clear c2b1
                try clear p2
                try clear c3
                try clear c4
                try clear c5
                try clear c6
                try clear c11
                try clear c14
                try clear c17
                try clear c18
                try clear c19
                try clear c20
                try clear c21
                try clear c22
                try clear c23
                try clear c27
                try clear c30
                try clear c30b0
                try clear c31
                try clear c36
                try clear c36b0
                try clear c36b1
                try clear c39
                try clear c47
                try clear c48
                try clear c52
                try clear c53
                try clear c54
                try clear c56
                try clear c59
                try clear c60
                try clear c62
                try clear hcz15_0
                try clear hcz15_1
                try clear hcz20_0
                try clear hcz20_1
                try clear hcz21_0
                try clear hcz21_1
                try clear hcz24_0
                try clear hcz24_1
                try clear hcz25_0
                try clear hcz25_1
                try clear hcz32_0
                try clear hcz32_1
                try clear hcz34_0
                try clear hcz34_1
                try clear hcz40_0
                try clear hcz40_1
                try clear hcz42_0
                try clear hcz42_1
                try clear hcz49_0
                try clear hcz49_1
                try clear hcz55_0
                try clear hcz55_1
                try clear hcz57_0
                try clear hcz57_1
                try clear hcz61_0
                try clear hcz61_1
                try clear hcz63_0
                try clear hcz63_1
                try clear hcz9_0
                try clear hcz9_1
                try clear hfz15_0
                try clear hfz15_1
                try clear hfz20_0
                try clear hfz20_1
                try clear hfz21_0
                try clear hfz21_1
                try clear hfz24_0
                try clear hfz24_1
                try clear hfz25_0
                try clear hfz25_1
                try clear hfz32_0
                try clear hfz32_1
                try clear hfz34_0
                try clear hfz34_1
                try clear hfz40_0
                try clear hfz40_1
                try clear hfz42_0
                try clear hfz42_1
                try clear hfz49_0
                try clear hfz49_1
                try clear hfz55_0
                try clear hfz55_1
                try clear hfz57_0
                try clear hfz57_1
                try clear hfz61_0
                try clear hfz61_1
                try clear hfz63_0
                try clear hfz63_1
                try clear hfz9_0
                try clear hfz9_1
                try clear p2
                obtain ⟨kq, x57_37, rfl, HA, HJ37, HO_567000, HO_567001, HO_575000, HO_575001, HO_588000, HO_588001, BK566, BK574, BK587, HB⟩ := hcut
                have hl575000_37 := (Kd.R_reads' HO_575000.out).1
                rw [hl575000_37] at HO_575000
                (try simp only [hl575000_37])
                (try simp only [hl575000_37] at BK566)
                (try simp only [hl575000_37] at BK574)
                (try simp only [hl575000_37] at BK587)
                (try simp only [hl575000_37] at HO_567000)
                (try simp only [hl575000_37] at HO_567001)
                (try simp only [hl575000_37] at HO_575001)
                (try simp only [hl575000_37] at HO_588000)
                (try simp only [hl575000_37] at HO_588001)
                have hl575001_37 := (Kd.R_reads' HO_575001.out).1
                rw [hl575001_37] at HO_575001
                (try simp only [hl575001_37])
                (try simp only [hl575001_37] at BK566)
                (try simp only [hl575001_37] at BK574)
                (try simp only [hl575001_37] at BK587)
                (try simp only [hl575001_37] at HO_567000)
                (try simp only [hl575001_37] at HO_567001)
                (try simp only [hl575001_37] at HO_575000)
                (try simp only [hl575001_37] at HO_588000)
                (try simp only [hl575001_37] at HO_588001)
                cases kq with
                | zero => exact absurd HA.out (by simp [laws_FnExactReadSystem.j1])
                | succ kj37 =>
                  have H := HA.out
                  clear HA
                  simp only [laws_FnExactReadSystem.j1] at H
                  by_cases c65 : x57_37 = true
                  · subst c65
                    have H1 : (some false) = some true := by rw [if_pos rfl] at H; exact H
                    clear H
                    have H := H1
                    clear H1
                    exact absurd H (by simp)
                  · replace c65 := Bool.eq_false_iff.mpr c65
                    subst c65
                    have H1 : ((laws_heldSystem.f kj37 t577 t578 1).bind fun t589 => (if t589 < 0 then (some false) else (if t589 = t576 then (some true) else (some false)))) = some true := by rw [if_neg (show ¬ (false = true) by decide)] at H; exact H
                    clear H
                    have H := H1
                    clear H1
                    replace H := Option.bind_eq_some_iff.mp H
                    obtain ⟨t589, A660, H⟩ := H
                    replace H : (if t589 < 0 then (some false) else (if t589 = t576 then (some true) else (some false))) = some true := H
                    have A66 := Aside0.mk A660
                    clear A660
                    by_cases c67 : t589 < 0
                    · rw [if_pos c67] at H
                      have c67b0 : decide (t589 < 0) = true := decide_eq_true c67
                      clear c67
                      exact absurd H (by simp)
                    · rw [if_neg c67] at H
                      have c67b0 : decide (t589 < 0) = false := decide_eq_false c67
                      clear c67
                      by_cases c72 : t589 = t576
                      · rw [if_pos c72] at H
                        have c72b0 : (t589 == t576) = true := beq_iff_eq.mpr c72
                        have c72b1 : (t589 != t576) = false := bne_eq_false_iff_eq.mpr c72
                        clear c72
                        clear H
                        have hnb73 := NB574_566.out
                        have hnc73 := NB566_574.out
                        have hnb74 := NB574_587.out
                        have hnc74 := NB587_574.out
                        have hcz75_0 : wc.cell? ⟨gb574, 0, none⟩ = some (.slice Ao13 t577.length co13) := (blk_cell BK574.out 0).trans rfl
                        have hcz75_1 : wc.cell? ⟨gb574, 1, none⟩ = some (.slice Ao16 t578.length co16) := (blk_cell BK574.out 1).trans rfl
                        have hfz75_0 := blk_frozen BK574.out 0
                        have hfz75_1 := blk_frozen BK574.out 1
                        go_wp2_with (first | ((with_reducible refine gate_callee (f := 22) rfl ?_); refine goesL_ (some 60) rfl rfl Tryd.func22 (by kernel_rfl) rfl #[.agg #[.slice Ao13 t577.length co13, .slice Ao16 t578.length co16], .int .i64 1] rfl (by (try simp only [List.map_toArray, List.map_cons, List.map_nil]); first | done | rfl | (simp only [List.length_drop, List.length_take]; rfl)) ?_; (with_reducible refine (laws_heldSystem.calls kj37 _ _ t577 _ _ t578 1 t589 _ ?side1 ?side2 ?side3 ?side4 A66.out).mono ?_); (case side1 => repeat (first | exact (Kd.R_reads' HO_575000.out).2.2 | (with_reducible refine Kd.C_alloc ?_ _) | (with_reducible refine Kd.C_drewN ?_ _) | (with_reducible refine Kd.C_drew ?_))); (case side2 => exact (Kd.R_reads' HO_575000.out).2.1); (case side3 => repeat (first | exact (Kd.R_reads' HO_575001.out).2.2 | (with_reducible refine Kd.C_alloc ?_ _) | (with_reducible refine Kd.C_drewN ?_ _) | (with_reducible refine Kd.C_drew ?_))); (case side4 => exact (Kd.R_reads' HO_575001.out).2.1); rintro e w76 ⟨rfl, hb⟩; refine ⟨_, rfl, ?_⟩; have n0_ := Aside0.mk (Kd.R_below (by (with_reducible repeat (first | apply Kd.R_alloc | apply Kd.R_drewN | apply Kd.R_drew)); exact HO_567000.out) hb); have n1_ := Aside0.mk (Kd.R_below (by (with_reducible repeat (first | apply Kd.R_alloc | apply Kd.R_drewN | apply Kd.R_drew)); exact HO_567001.out) hb); have n2_ := Aside0.mk (Kd.R_below (by (with_reducible repeat (first | apply Kd.R_alloc | apply Kd.R_drewN | apply Kd.R_drew)); exact HO_575000.out) hb); have n3_ := Aside0.mk (Kd.R_below (by (with_reducible repeat (first | apply Kd.R_alloc | apply Kd.R_drewN | apply Kd.R_drew)); exact HO_575001.out) hb); have n4_ := Aside0.mk (Kd.R_below (by (with_reducible repeat (first | apply Kd.R_alloc | apply Kd.R_drewN | apply Kd.R_drew)); exact HO_588000.out) hb); have n5_ := Aside0.mk (Kd.R_below (by (with_reducible repeat (first | apply Kd.R_alloc | apply Kd.R_drewN | apply Kd.R_drew)); exact HO_588001.out) hb); have n6_ := Aside0.mk (blk_below (g := gb566) (o := .cells #[.slice Ao8 t559.length co8, .slice Ao10 t562.length co10] 30 (0, 0)) (by (with_reducible repeat (first | refine blk_drewN ?_ _ | refine blk_drew ?_ | refine blk_alloc ?_ _)); exact BK566.out) hb); have n7_ := Aside0.mk (blk_below (g := gb574) (o := .cells #[.slice Ao13 t577.length co13, .slice Ao16 t578.length co16] 30 (0, 0)) (by (with_reducible repeat (first | refine blk_drewN ?_ _ | refine blk_drew ?_ | refine blk_alloc ?_ _)); exact BK574.out) hb); have n8_ := Aside0.mk (blk_below (g := gb587) (o := .cells #[.slice Ao46 t580.length co46, .slice Ao50 t583.length co50] 30 (0, 0)) (by (with_reducible repeat (first | refine blk_drewN ?_ _ | refine blk_drew ?_ | refine blk_alloc ?_ _)); exact BK587.out) hb); have n9_ := Aside0.mk (below_step (by repeat (first | (with_reducible first | exact HB.out | apply below_alloc | apply pw_below_drewN | apply below_drew1 | refine below_set ?_ GE566.out | refine below_set ?_ GE574.out | refine below_set ?_ GE587.out) | exact HB.out)) hb); clear HO_567000; clear HO_567001; clear HO_575000; clear HO_575001; clear HO_588000; clear HO_588001; clear BK566; clear BK574; clear BK587; clear HB; have HO_567000 := n0_; have HO_567001 := n1_; have HO_575000 := n2_; have HO_575001 := n3_; have HO_588000 := n4_; have HO_588001 := n5_; have BK566 := n6_; have BK574 := n7_; have BK587 := n8_; have HB := n9_; clear n0_ n1_ n2_ n3_ n4_ n5_ n6_ n7_ n8_ n9_; (try clear hb); (try clear hb2); (try clear hk); (try clear hi)))
                        go_ret
                        exact ⟨by first | rfl | (simp [errW_none, errW_some] <;> rfl) | (simp [*, errW_none, errW_some] <;> rfl), by repeat (first | (with_reducible first | exact HB.out | apply below_alloc | apply pw_below_drewN | apply below_drew1 | refine below_set ?_ GE566.out | refine below_set ?_ GE574.out | refine below_set ?_ GE587.out) | exact HB.out)⟩
                      · rw [if_neg c72] at H
                        have c72b0 : (t589 == t576) = false := beq_eq_false_iff_ne.mpr c72
                        have c72b1 : (t589 != t576) = true := bne_iff_ne.mpr c72
                        exact absurd H (by simp)
            · rw [if_neg c36] at H
              have c36b0 : (t579 == t576) = false := beq_eq_false_iff_ne.mpr c36
              have c36b1 : (t579 != t576) = true := bne_iff_ne.mpr c36
              exact absurd H (by simp)
end Go.Proofs.YtdhhnkhgmoblhaaDoor.Q
