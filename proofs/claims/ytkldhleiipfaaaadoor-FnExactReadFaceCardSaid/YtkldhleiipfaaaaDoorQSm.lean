-- Joined by joinmods.py out of: QlawsszPairS QhandSame
import Derived.Test.YtkldhleiipfaaaaDoorQ0
import Derived.Test.YtkldhleiipfaaaaDoorQhandFace
section
-- WRITTEN BY A PROGRAM OF THIS SESSION (xprint.py, which runs the kit's printer with changes). Lean checks it.
namespace Go.Proofs.YtkldhleiipfaaaaDoor.Q
open Go.RowKit Go.Proofs.YtkldhleiipfaaaaDoorW.PrintWords Go.Proofs.YtkldhleiipfaaaaDoorW.PrintLast Go.Proofs.YtkldhleiipfaaaaDoorW.PrintMore
set_option linter.unusedVariables false
set_option linter.unusedSimpArgs false
attribute [local go_sem] max2_int min2_int max_two min_two max_three min_three max_four min_four   -- for this text's walks alone
/-! ### laws_szPairS: function 14 -/
def laws_szPairS.f (l0 : List (S69)) (a1 : Int) : Option (Int) := if (wrap64 (a1 - (l0.length : Int))) < 0 then (some (-1)) else (some (wrap64 (a1 - (l0.length : Int))))
set_option maxHeartbeats 8000000 in
set_option maxRecDepth 100000 in
theorem laws_szPairS.calls (A0 : Option Addr) (c0 : Nat) (l0 : List (S69)) (a1 : Int) (r : Int) (w : World) (hr0 : Kd.C k69 w A0 l0.length l0) (hc0 : l0.length ≤ c0) (h : laws_szPairS.f l0 a1 = some r) :
    Calls Tryd.prog 14 #[.slice A0 l0.length c0, .int .i64 a1] w fun e w' => e = .returned (.int .i64 r) ∧ Drawn0 w w' := by
  have HR0 := Aside0.mk hr0
  have HC0 := Aside0.mk hc0
  clear hr0 hc0
  have H : (if (wrap64 (a1 - (l0.length : Int))) < 0 then (some (-1)) else (some (wrap64 (a1 - (l0.length : Int))))) = some r := h
  clear h
  by_cases c3 : (wrap64 (a1 - (l0.length : Int))) < 0
  · rw [if_pos c3] at H
    have c3b0 : decide ((wrap64 (a1 - (l0.length : Int))) < 0) = true := decide_eq_true c3
    clear c3
    obtain rfl := Option.some.inj H
    go_enter Tryd.func14, Tryd.ntmps14
    go_wp2
    go_ret
    exact ⟨by first | rfl | (simp; done) | (simp [*]; done), by repeat (first | exact Drawn0.refl _ | apply Drawn0.step)⟩
  · rw [if_neg c3] at H
    have c3b0 : decide ((wrap64 (a1 - (l0.length : Int))) < 0) = false := decide_eq_false c3
    clear c3
    obtain rfl := Option.some.inj H
    go_enter Tryd.func14, Tryd.ntmps14
    go_wp2
    go_ret
    exact ⟨by first | rfl | (simp; done) | (simp [*]; done), by repeat (first | exact Drawn0.refl _ | apply Drawn0.step)⟩

end Go.Proofs.YtkldhleiipfaaaaDoor.Q
end
section
/- laws.eqFace at two faces that are alike, laws.szFace, impl.SameFace, by hand. -/
namespace Go.Proofs.YtkldhleiipfaaaaDoor.Q
open Go.RowKit Go.Proofs.YtkldhleiipfaaaaDoorW.PrintWords Go.Proofs.YtkldhleiipfaaaaDoorW.PrintLast Go.Proofs.YtkldhleiipfaaaaDoorW.PrintMore
open Go.Proofs.YtkldhleiipfaaaaDoor.Pure
set_option linter.unusedVariables false
set_option linter.unusedSimpArgs false

instance decPr : DecidableEq S48 := fun a b => decidable_of_iff (a.f0 = b.f0 ∧ a.f1 = b.f1 ∧ a.f2 = b.f2) ⟨fun h => by cases a; cases b; obtain ⟨rfl, rfl, rfl⟩ := h; rfl, fun h => by rw [h]; exact ⟨rfl, rfl, rfl⟩⟩
theorem laws_eqPairS.val_self (l : List S48) (hl : l.length ≤ 1048576) (k : Nat) (hk : l.length < k) : laws_eqPairS.f k l l = some true := by
  unfold laws_eqPairS.f
  rw [if_pos rfl]
  have := scan_all (n := l.length) (l := fun k i => laws_eqPairS.l0 k l l i) (p := fun i => true) (b := true) (fun k i hi => ?_) (fun k => ?_) k hk
  · rw [show (List.range l.length).all (fun _ => true) = true from List.all_eq_true.2 (fun _ _ => rfl)] at this
    exact this
  · simp only [laws_eqPairS.l0, laws_eqPair.f]
    rw [if_pos (by omega), if_pos (by omega), if_pos (by omega), wrap_succ hi (by omega)]
    simp
  · simp [laws_eqPairS.l0]

set_option maxHeartbeats 4000000 in
theorem eqFaceC (ws : List Int) (hx : ws.length = 26) (sp gp : Int) (A B : Option Addr) (c d : Nat) (l : List S48) (w : World) (hr : Kd.C k48 w A l.length l) (hc : l.length ≤ c) (hr' : Kd.C k48 w B l.length l) (hd : l.length ≤ d) (hl : l.length ≤ 1048576) :
    Calls Tryd.prog 9 #[.agg (FV ws sp gp (.slice A l.length c)), .agg (FV ws sp gp (.slice B l.length d))] w fun e w' => e = .returned (.bool true) ∧ Below w.heap.size w w' := by
  go_enter Tryd.func9, Tryd.ntmps9
  obtain ⟨N, hN⟩ : ∃ N : Nat, N = 26 := ⟨_, rfl⟩
  obtain ⟨T, hT⟩ : ∃ T : TypeId, T = 23 := ⟨_, rfl⟩
  have hz : ∀ w, (sizeOf T).run Tryd.prog w = .ok N w := fun w => by rw [hN, hT]; exact Tryd.sizeOf23 w
  have ha : ∀ w, (isAgg T).run Tryd.prog w = .ok true w := fun w => by rw [hT]; exact Tryd.isAgg23 w
  have e1 : ∀ x, Op.load 23 x = Op.load T x := fun x => by rw [hT]
  simp only [e1]
  clear e1
  have HN := Lib.hid hN
  have HX := Lib.hid hx
  have HR := Lib.hid hr
  have HR' := Lib.hid hr'
  have HC := Lib.hid hc
  have HD := Lib.hid hd
  have HL := Lib.hid hl
  clear hT hN hr hc hr' hd hl hx
  have H2 := Lib.hid (two_blocks w (.cells (FV ws sp gp (.slice A l.length c)) 31) (.cells (FV ws sp gp (.slice B l.length d)) 31))
  have HB := Lib.hid (below_alloc (below_alloc (Below.refl _ w) (.cells (FV ws sp gp (.slice A l.length c)) 31)) (.cells (FV ws sp gp (.slice B l.length d)) 31))
  have HS2 := Lib.hid (show ((w.alloc (.cells (FV ws sp gp (.slice A l.length c)) 31)).alloc (.cells (FV ws sp gp (.slice B l.length d)) 31)).heap.size = w.heap.size + 2 by simp)
  have hL0 := loadA H2.out.1 HX.out HN.out
  have hL1 := loadA H2.out.2 HX.out HN.out
  have t1 : (sp != sp) = false := by simp
  have t2 : (gp != gp) = false := by simp
  go_wp2_with (first
    | (go_at_call 23
       with_reducible refine (eqA26 ws ws HX.out HX.out _).mono ?_
       rintro e w1 ⟨rfl, hb⟩
       rw [show decide (ws = ws) = true from decide_eq_true rfl]
       have B1 := Lib.hid (below_step HB.out hb)
       have K0 := Lib.hid ((hb.block w.heap.size (by rw [HS2.out]; omega)).trans H2.out.1)
       have K1 := Lib.hid ((hb.block (w.heap.size + 1) (by rw [HS2.out]; omega)).trans H2.out.2)
       clear hb
       have c26 := (blk_cell K0.out 26).trans (FV_26 ws HX.out _ _ _)
       have c27 := (blk_cell K0.out 27).trans (FV_27 ws HX.out _ _ _)
       have c28 := (blk_cell K0.out 28).trans (FV_28 ws HX.out _ _ _)
       have d26 := (blk_cell K1.out 26).trans (FV_26 ws HX.out _ _ _)
       have d27 := (blk_cell K1.out 27).trans (FV_27 ws HX.out _ _ _)
       have d28 := (blk_cell K1.out 28).trans (FV_28 ws HX.out _ _ _))
    | (go_at_call 24
       with_reducible refine (laws_eqPairS.calls (l.length + 1) A c l B d l true _ (Kd.C_below HR.out B1.out) HC.out (Kd.C_below HR'.out B1.out) HD.out (laws_eqPairS.val_self l HL.out _ (by omega))).mono ?_
       rintro e w7 ⟨rfl, hb⟩
       have B7 := Lib.hid (below_step B1.out hb)
       clear hb))
  go_ret
  exact ⟨rfl, B7.out⟩

theorem laws_szPairS.val (l : List S69) (hl : l.length ≤ 9223372036854775807) (b : Int) (h0 : 0 ≤ b) (hb : b ≤ 1048576) : laws_szPairS.f l b = some (if b - (l.length : Int) < 0 then -1 else b - (l.length : Int)) := by
  unfold laws_szPairS.f
  rw [wrap_id (by omega) (by omega)]
  split <;> rfl

set_option maxHeartbeats 4000000 in
theorem szFaceC (ws : List Int) (hx : ws.length = 26) (sp gp : Int) (A : Option Addr) (c : Nat) (l : List S69) (b : Int) (h0 : 0 ≤ b) (hb : b ≤ 1048576) (w : World) (hr : Kd.C k69 w A l.length l) (hc : l.length ≤ c) (hl : l.length ≤ 9223372036854775807) :
    Calls Tryd.prog 5 #[.agg (FV ws sp gp (.slice A l.length c)), .int .i64 b] w fun e w' => e = .returned (.int .i64 (if b - (l.length : Int) < 0 then -1 else b - (l.length : Int))) ∧ Below w.heap.size w w' := by
  go_enter Tryd.func5, Tryd.ntmps5
  have HX := Lib.hid hx
  have HR := Lib.hid hr
  have HC := Lib.hid hc
  have HE := Lib.hid (laws_szPairS.val l hl b h0 hb)
  have H1 := Lib.hid (heap_alloc_new w (.cells (FV ws sp gp (.slice A l.length c)) 26))
  have HB := Lib.hid (below_alloc (Below.refl w.heap.size w) (.cells (FV ws sp gp (.slice A l.length c)) 26))
  clear hx hr hc hl h0 hb
  have c28 := (blk_cell H1.out 28).trans (FV_28 ws HX.out _ _ _)
  obtain ⟨r, hr⟩ : ∃ r, r = (if b - (l.length : Int) < 0 then -1 else b - (l.length : Int)) := ⟨_, rfl⟩
  rw [← hr] at HE ⊢
  have HV := Lib.hid hr
  have hr2 : r < 0 → r = -1 := fun h => by
    rw [hr] at h ⊢
    split at h
    · rw [if_pos (by assumption)]
    · omega
  have HM := Lib.hid hr2
  clear hr hr2
  by_cases ht : r < 0
  · have HT := Lib.hid (HM.out ht)
    go_wp2_with (first
      | (go_at_call 14
         with_reducible refine (laws_szPairS.calls A c l b r _ (Kd.C_below HR.out HB.out) HC.out HE.out).mono ?_
         rintro e w7 ⟨rfl, ⟨nd, rfl⟩⟩))
    go_ret
    exact ⟨by rw [HT.out]; rfl, pw_below_drewN HB.out _⟩
  · go_wp2_with (first
      | (go_at_call 14
         with_reducible refine (laws_szPairS.calls A c l b r _ (Kd.C_below HR.out HB.out) HC.out HE.out).mono ?_
         rintro e w7 ⟨rfl, ⟨nd, rfl⟩⟩))
    go_ret
    exact ⟨rfl, pw_below_drewN HB.out _⟩
end Go.Proofs.YtkldhleiipfaaaaDoor.Q
end
