/- The law FaceText holds, walked by hand. -/
import Derived.Test.YtkldhleiipfaaaaDoorQhandFImpl
import Derived.Test.YtkldhleiipfaaaaDoorQhandLawKit
namespace Go.Proofs.YtkldhleiipfaaaaDoor.Q
open Go.RowKit Go.Proofs.YtkldhleiipfaaaaDoorW.PrintWords Go.Proofs.YtkldhleiipfaaaaDoorW.PrintLast Go.Proofs.YtkldhleiipfaaaaDoorW.PrintMore
open Go.Proofs.YtkldhleiipfaaaaDoor.Pure
set_option linter.unusedVariables false
set_option linter.unusedSimpArgs false
theorem specFaceTextR (ws : List Int) (hx : ws.length = 26) (sp gp : Int) (A : Option Addr) (c : Nat) (l : List S48) (w : World) (hr : Kd.C k48 w A l.length l) (hc : l.length ≤ c) (hl : l.length ≤ 1048576) (hf : Fit ws sp gp l) (tx : ByteArray) (h : faceTextR ws sp gp l = tx) :
    Calls Tryd.prog 6 #[.agg (FV ws sp gp (.slice A l.length c))] w fun e w' => e = .returned (.string tx) ∧ Below w.heap.size w w' := h ▸ specFaceTextC ws hx sp gp A c l w hr hc hl hf
theorem implFaceTextR (ws : List Int) (hx : ws.length = 26) (sp gp : Int) (A : Option Addr) (c : Nat) (l : List S48) (w : World) (hG : GlobP w) (hr : Kd.C k48 w A l.length l) (hc : l.length ≤ c) (hl : l.length ≤ 1048576) (hf : Fit ws sp gp l) (tx : ByteArray) (h : faceTextR ws sp gp l = tx) :
    Calls Tryd.prog 8 #[.agg (FV ws sp gp (.slice A l.length c))] w fun e w' => e = .returned (.string tx) ∧ Below w.heap.size w w' := h ▸ implFaceTextC ws hx sp gp A c l w hG hr hc hl hf

set_option maxHeartbeats 8000000 in
set_option maxRecDepth 100000 in
theorem lawTextA (ws : List Int) (hx : ws.length = 26) (sp gp : Int) (A : Option Addr) (c : Nat) (l : List S69) (w : World) (hr : Kd.C k69 w A l.length l) (hc : l.length ≤ c) (hl : l.length ≤ 9223372036854775807) (hbig : 1048576 < (l.length : Int)) :
    Calls Tryd.prog 3 #[.agg (FV ws sp gp (.slice A l.length c))] w fun e w' => e = .returned (.bool true) ∧ Below w.heap.size w w' := by
  have HV1 := Lib.hid (show (if (1048576 : Int) - (l.length : Int) < 0 then -1 else (1048576 : Int) - (l.length : Int)) = -1 from if_pos (by omega))
  clear hbig
  go_enter Tryd.func3, Tryd.ntmps3
  obtain ⟨M, hM⟩ : ∃ M : Nat, M = 29 := ⟨_, rfl⟩
  obtain ⟨S, hS⟩ : ∃ S : TypeId, S = 26 := ⟨_, rfl⟩
  obtain ⟨U, hU⟩ : ∃ U : TypeId, U = 31 := ⟨_, rfl⟩
  have hzS : ∀ w, (sizeOf S).run Tryd.prog w = .ok M w := fun w => by rw [hM, hS]; exact Tryd.sizeOf26 w
  have haS : ∀ w, (isAgg S).run Tryd.prog w = .ok true w := fun w => by rw [hS]; exact Tryd.isAgg26 w
  have hzU : ∀ w, (sizeOf U).run Tryd.prog w = .ok M w := fun w => by rw [hM, hU]; exact Tryd.sizeOf31 w
  have haU : ∀ w, (isAgg U).run Tryd.prog w = .ok true w := fun w => by rw [hU]; exact Tryd.isAgg31 w
  have hvU : ∀ w, (zeroValue U).run Tryd.prog w = .ok (.agg ZF) w := fun w => by rw [hU]; exact Tryd.zeroValue31 w
  have e1 : ∀ x, Op.load 26 x = Op.load S x := fun x => by rw [hS]
  have e2 : ∀ x, Op.load 31 x = Op.load U x := fun x => by rw [hU]
  have e3 : ∀ x y, Op.store 31 x y = Op.store U x y := fun x y => by rw [hU]
  have e4 : Op.alloc 31 = Op.alloc U := by rw [hU]
  simp only [e1, e2, e3, e4]
  clear e1 e2 e3 e4
  have HM := Lib.hid hM
  have HX := Lib.hid hx
  have HR := Lib.hid hr
  have HC := Lib.hid hc
  have HL := Lib.hid hl
  have hFa : ∀ v, (FV ws sp gp v).size = M := fun v => by rw [FV_size ws hx, hM]
  clear hM hS hU hx hr hc hl
  have H1 := Lib.hid (heap_alloc_new w (.cells (FV ws sp gp (.slice A l.length c)) 26))
  have HB := Lib.hid (below_alloc (Below.refl w.heap.size w) (.cells (FV ws sp gp (.slice A l.length c)) 26))
  have HS1 := Lib.hid (show (w.alloc (.cells (FV ws sp gp (.slice A l.length c)) 26)).heap.size = w.heap.size + 1 by simp)
  have q0 := loadF H1.out HX.out HM.out
  go_wp2_with (first
    | (go_at_call 5
       with_reducible refine (szFaceR ws HX.out sp gp A c l 1048576 (by decide) (by decide) _ (Kd.C_below HR.out HB.out) HC.out HL.out (-1) HV1.out).mono ?_
       rintro e w1 ⟨rfl, hb⟩
       have B1 := Lib.hid (below_step HB.out hb)
       have S1 := Lib.hid (show w.heap.size + 1 ≤ w1.heap.size from HS1.out ▸ hb.size)
       have K0 := Lib.hid ((hb.block w.heap.size (by rw [HS1.out]; omega)).trans H1.out)
       clear hb q0
       have q0 := loadF K0.out HX.out HM.out))
  go_ret
  exact ⟨rfl, B1.out⟩

set_option maxHeartbeats 8000000 in
set_option maxRecDepth 100000 in
theorem lawTextC (ws : List Int) (hx : ws.length = 26) (sp gp : Int) (A : Option Addr) (c : Nat) (l : List S69) (w : World) (hr : Kd.C k69 w A l.length l) (hc : l.length ≤ c) (hl : l.length ≤ 9223372036854775807) (hsm : (l.length : Int) ≤ 1048576) (hfit : Fit ws sp gp (l.map toPr)) (hG : GlobP w) :
    Calls Tryd.prog 3 #[.agg (FV ws sp gp (.slice A l.length c))] w fun e w' => e = .returned (.bool true) ∧ Below w.heap.size w w' := by
  obtain ⟨r1, e1⟩ : ∃ r1 : Int, r1 = 1048576 - (l.length : Int) := ⟨_, rfl⟩
  have HV1 := Lib.hid (show (if (1048576 : Int) - (l.length : Int) < 0 then -1 else (1048576 : Int) - (l.length : Int)) = r1 by rw [if_neg (by omega), e1])
  have hr2 : ¬ r1 < 0 := by omega
  obtain ⟨m, hm⟩ : ∃ m, m = l.map toPr := ⟨_, rfl⟩
  rw [← hm] at hfit
  have HP := Lib.hid hm
  have HN1 := Lib.hid (show l.length ≤ 1048576 by omega)
  have HN3 := Lib.hid (show m.length ≤ 1048576 by rw [hm, List.length_map]; omega)
  have HFT := Lib.hid hfit
  obtain ⟨tx, hb⟩ : ∃ tx, faceTextR ws sp gp m = tx := ⟨_, rfl⟩
  have HVB := Lib.hid hb
  have HGL := Lib.hid hG
  clear hb hG
  clear hsm e1 hm hfit
  go_enter Tryd.func3, Tryd.ntmps3
  obtain ⟨M, hM⟩ : ∃ M : Nat, M = 29 := ⟨_, rfl⟩
  obtain ⟨S, hS⟩ : ∃ S : TypeId, S = 26 := ⟨_, rfl⟩
  obtain ⟨U, hU⟩ : ∃ U : TypeId, U = 31 := ⟨_, rfl⟩
  have hzS : ∀ w, (sizeOf S).run Tryd.prog w = .ok M w := fun w => by rw [hM, hS]; exact Tryd.sizeOf26 w
  have haS : ∀ w, (isAgg S).run Tryd.prog w = .ok true w := fun w => by rw [hS]; exact Tryd.isAgg26 w
  have hzU : ∀ w, (sizeOf U).run Tryd.prog w = .ok M w := fun w => by rw [hM, hU]; exact Tryd.sizeOf31 w
  have haU : ∀ w, (isAgg U).run Tryd.prog w = .ok true w := fun w => by rw [hU]; exact Tryd.isAgg31 w
  have hvU : ∀ w, (zeroValue U).run Tryd.prog w = .ok (.agg ZF) w := fun w => by rw [hU]; exact Tryd.zeroValue31 w
  have e1 : ∀ x, Op.load 26 x = Op.load S x := fun x => by rw [hS]
  have e2 : ∀ x, Op.load 31 x = Op.load U x := fun x => by rw [hU]
  have e3 : ∀ x y, Op.store 31 x y = Op.store U x y := fun x y => by rw [hU]
  have e4 : Op.alloc 31 = Op.alloc U := by rw [hU]
  simp only [e1, e2, e3, e4]
  clear e1 e2 e3 e4
  have HM := Lib.hid hM
  have HX := Lib.hid hx
  have HR := Lib.hid hr
  have HC := Lib.hid hc
  have HL := Lib.hid hl
  have hFa : ∀ v, (FV ws sp gp v).size = M := fun v => by rw [FV_size ws hx, hM]
  clear hM hS hU hx hr hc hl
  have H1 := Lib.hid (heap_alloc_new w (.cells (FV ws sp gp (.slice A l.length c)) 26))
  have HB := Lib.hid (below_alloc (Below.refl w.heap.size w) (.cells (FV ws sp gp (.slice A l.length c)) 26))
  have HS1 := Lib.hid (show (w.alloc (.cells (FV ws sp gp (.slice A l.length c)) 26)).heap.size = w.heap.size + 1 by simp)
  have q0 := loadF H1.out HX.out HM.out
  go_wp2_with (first
    | (go_at_call 5
       with_reducible refine (szFaceR ws HX.out sp gp A c l 1048576 (by decide) (by decide) _ (Kd.C_below HR.out HB.out) HC.out HL.out r1 HV1.out).mono ?_
       rintro e w1 ⟨rfl, hb⟩
       have B1 := Lib.hid (below_step HB.out hb)
       have S1 := Lib.hid (show w.heap.size + 1 ≤ w1.heap.size from HS1.out ▸ hb.size)
       have K0 := Lib.hid ((hb.block w.heap.size (by rw [HS1.out]; omega)).trans H1.out)
       clear hb q0
       have q0 := loadF K0.out HX.out HM.out)
    | (go_at_call 7
       with_reducible refine (toFaceM ws HX.out sp gp A c l m HP.out _ (Kd.C_below HR.out B1.out) HC.out HN1.out).mono ?_
       rintro e w2 ⟨A2, c2, rfl, hC, hc, hb⟩
       have B2 := Lib.hid (below_step B1.out hb)
       have S2 := Lib.hid (Nat.le_trans S1.out hb.size)
       have K2 := Lib.hid ((hb.block w.heap.size (by have := S1.out; omega)).trans K0.out)
       have G2 := Lib.hid hC
       have D2 := Lib.hid hc
       clear hC hc hb K0 q0)
    | (go_at_call 6
       with_reducible refine (specFaceTextR ws HX.out sp gp A2 c2 m _ G2.out D2.out HN3.out HFT.out tx HVB.out).mono ?_
       rintro e w3 ⟨rfl, hb⟩
       have B3 := Lib.hid (below_step B2.out hb)
       have S3 := Lib.hid (Nat.le_trans S2.out hb.size)
       have K3 := Lib.hid ((hb.block w.heap.size (by have := S2.out; omega)).trans K2.out)
       clear hb K2
       have q3 := loadF K3.out HX.out HM.out)
    | (go_at_call 7
       with_reducible refine (toFaceM ws HX.out sp gp A c l m HP.out _ (Kd.C_below HR.out B3.out) HC.out HN1.out).mono ?_
       rintro e w7 ⟨A3, c3, rfl, hC, hc, hb⟩
       have B7 := Lib.hid (below_step B3.out hb)
       have S7 := Lib.hid (Nat.le_trans S3.out hb.size)
       have L0 := Lib.hid ((hb.block w.heap.size (by have := S3.out; omega)).trans K3.out)
       obtain ⟨x1, x2, x3⟩ := boxed w7 U ws sp gp (.slice A3 m.length c3)
       have hst := store_new w7 U ws HX.out sp gp A3 m.length c3
       obtain ⟨w8, hw8⟩ : ∃ w8, w8 = (w7.alloc (.cells ZF U)).setRow w7.heap.size (FV ws sp gp (.slice A3 m.length c3)) := ⟨_, rfl⟩
       rw [← hw8] at hst x1 x2 x3
       clear hw8
       have B8 := Lib.hid (below_step B7.out x1)
       have S8 := Lib.hid x3
       have M0 := Lib.hid ((x1.block w.heap.size (by have := S7.out; omega)).trans L0.out)
       have M2 := Lib.hid x2
       have G3 := Lib.hid (Kd.C_below hC x1)
       have D3 := Lib.hid hc
       clear x1 x2 x3 hC hc hb q3 K3 L0
       have q4 := loadF M2.out HX.out HM.out)
    | (go_at_call 8
       with_reducible refine (implFaceTextR ws HX.out sp gp A3 c3 m _ (HGL.out.step B8.out) G3.out D3.out HN3.out HFT.out tx HVB.out).mono ?_
       rintro e w11 ⟨rfl, hb⟩
       have B11 := Lib.hid (below_step B8.out hb)
       have S11 := Lib.hid (Nat.lt_of_lt_of_le S8.out hb.size)
       have K0 := Lib.hid ((hb.block w.heap.size (by have := S7.out; have := S8.out; omega)).trans M0.out)
       have K2 := Lib.hid ((hb.block w7.heap.size S8.out).trans M2.out)
       have G5 := Lib.hid (Kd.C_below G3.out hb)
       clear hb q4 M0 M2 G3))
  have P7 := Lib.hid (show w.heap.size + 1 ≤ w7.heap.size from S7.out)
  refine start_ (n := 5) (S := fun w' => w'.heap[w.heap.size]? = some (.cells (FV ws sp gp (.slice A l.length c)) 26) ∧ w'.heap[w7.heap.size]? = some (.cells (FV ws sp gp (.slice A3 m.length c3)) U)) (ds := []) #[false, false, false, false, false] (by kernel_rfl) rfl rfl ⟨blk_drew K0.out, blk_drew K2.out⟩ (fun hHeld => ?_)
  have B12 := Lib.hid (below_drew1 B11.out)
  have S12 := Lib.hid (show w7.heap.size < w11.drew.heap.size from S11.out)
  have E5 := Lib.hid (Kd.C_drew G5.out)
  generalize w11.drew = w12 at B12 S12 E5 hHeld ⊢
  clear K0 K2 G5
  refine take_ (i := 0) (N := some 22) (v := ?_) (a' := ?_) #[true, false, false, false, false] rfl rfl (by kernel_rfl) (fun _ _ _ h => h) (Or.inl ⟨by rfl, ?_⟩) hHeld ?_ ?_
  rotate_left
  · rintro w' ⟨s0, s2⟩
    have q := loadF s2 HX.out HM.out
    go_simp
    with_reducible rfl
  rotate_left
  · simp only [Act.put, List.setIfInBounds_toArray, List.set_cons_zero, List.set_cons_succ, i64_w, i32_w]
    rfl
  refine take_ (i := 1) (N := some 23) (v := ?_) (a' := ?_) #[true, true, false, false, false] rfl rfl (by kernel_rfl) (fun _ _ _ h => h) (Or.inl ⟨by rfl, ?_⟩) hHeld ?_ ?_
  rotate_left
  · rintro w' ⟨s0, s2⟩
    have q := loadF s0 HX.out HM.out
    go_simp
    with_reducible rfl
  rotate_left
  · simp only [Act.put, List.setIfInBounds_toArray, List.set_cons_zero, List.set_cons_succ, i64_w, i32_w]
    rfl
  refine one_ (i := 2) (N := some 24) #[true, true, true, false, false] rfl rfl (by kernel_rfl) (by decide) (fun K hK => ?_)
  refine goes_ Tryd.func7 (by kernel_rfl) rfl #[.agg (FV ws sp gp (.slice A l.length c))] (by rfl) rfl rfl (by (try simp only [List.map_toArray, List.map_cons, List.map_nil]); first | done | rfl) ?_
  with_reducible refine (toFaceM ws HX.out sp gp A c l m HP.out _ (Kd.C_below HR.out B12.out) HC.out HN1.out).mono ?_
  rintro e w13 ⟨A5, c5, rfl, hC, hc, hb⟩
  refine ⟨_, rfl, ?_⟩
  have B13 := Lib.hid (below_step B12.out hb)
  have S13 := Lib.hid (Nat.lt_of_lt_of_le S12.out hb.size)
  have K0 := Lib.hid ((hb.block w.heap.size (by have := P7.out; have := S12.out; omega)).trans hHeld.1)
  have K2 := Lib.hid ((hb.block w7.heap.size S12.out).trans hHeld.2)
  have F5 := Lib.hid (Kd.C_below E5.out hb)
  have G7 := Lib.hid hC
  have D7 := Lib.hid hc
  clear hC hc hb hHeld E5
  refine hK.out _ _ ⟨K0.out, K2.out⟩ (fun hHeld => ?_)
  clear hK K
  refine norm_ (a' := ?_) ?_ ?_
  rotate_left
  · show Act.put _ (some 24) _ = _
    simp only [Act.put, List.setIfInBounds_toArray, List.set_cons_zero, List.set_cons_succ, i64_w, i32_w]
    rfl
  refine one_ (i := 3) (N := some 25) #[true, true, true, true, false] rfl rfl (by kernel_rfl) (by decide) (fun K hK => ?_)
  refine goes_ Tryd.func9 (by kernel_rfl) rfl #[.agg (FV ws sp gp (.slice A3 m.length c3)), .agg (FV ws sp gp (.slice A5 m.length c5))] (by rfl) rfl rfl (by (try simp only [List.map_toArray, List.map_cons, List.map_nil]); first | done | rfl) ?_
  with_reducible refine (eqFaceC ws HX.out sp gp A3 A5 c3 c5 m _ F5.out D3.out G7.out D7.out HN3.out).mono ?_
  rintro e w14 ⟨rfl, hb⟩
  refine ⟨_, rfl, ?_⟩
  have B14 := Lib.hid (below_step B13.out hb)
  clear K0 K2
  have K0 := Lib.hid ((hb.block w.heap.size (by have := P7.out; have := S13.out; omega)).trans hHeld.1)
  have K2 := Lib.hid ((hb.block w7.heap.size S13.out).trans hHeld.2)
  clear hb hHeld F5 G7
  refine hK.out _ _ ⟨K0.out, K2.out⟩ (fun hHeld => ?_)
  clear hK K
  refine norm_ (a' := ?_) ?_ ?_
  rotate_left
  · show Act.put _ (some 25) _ = _
    simp only [Act.put, List.setIfInBounds_toArray, List.set_cons_zero, List.set_cons_succ, i64_w, i32_w]
    rfl
  refine pure_ (i := 4) (N := some 26) (v := ?_) (a' := ?_) #[true, true, true, true, true] rfl rfl (by kernel_rfl) (fun _ _ _ h => h) (Or.inl ⟨by rfl, ?_⟩) ?_ ?_
  rotate_left
  · intro w'
    go_simp
    with_reducible rfl
  rotate_left
  · simp only [Act.put, List.setIfInBounds_toArray, List.set_cons_zero, List.set_cons_succ, i64_w, i32_w]
    rfl
  refine done_ (by kernel_rfl) ?_
  clear hHeld
  go_wp2
  go_ret
  exact ⟨rfl, B14.out⟩

theorem lawText (ws : List Int) (hx : ws.length = 26) (sp gp : Int) (A : Option Addr) (c : Nat) (l : List S69) (w : World) (hG : GlobP w) (hr : Kd.C k69 w A l.length l) (hc : l.length ≤ c) (hfit : Fit ws sp gp (l.map toPr)) :
    Calls Tryd.prog 3 #[.agg (FV ws sp gp (.slice A l.length c))] w fun e w' => e = .returned (.bool true) ∧ Below w.heap.size w w' := by
  have hl := Kd.C_max hr
  by_cases h1 : (l.length : Int) ≤ 1048576
  · exact lawTextC ws hx sp gp A c l w hr hc hl h1 hfit hG
  · exact lawTextA ws hx sp gp A c l w hr hc hl (by omega)
end Go.Proofs.YtkldhleiipfaaaaDoor.Q
