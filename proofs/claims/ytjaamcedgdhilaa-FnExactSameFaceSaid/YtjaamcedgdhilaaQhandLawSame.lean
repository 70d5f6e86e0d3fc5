/- The law SameFace holds, walked by hand. -/
import Derived.Test.YtjaamcedgdhilaaQhandSame2
namespace Go.Proofs.Ytjaamcedgdhilaa.Q
open Go.RowKit Go.Proofs.YtjaamcedgdhilaaW.PrintWords Go.Proofs.YtjaamcedgdhilaaW.PrintLast Go.Proofs.YtjaamcedgdhilaaW.PrintMore
open Go.Proofs.Ytjaamcedgdhilaa.Pure
set_option linter.unusedVariables false
set_option linter.unusedSimpArgs false

/-- toFace, its row read alone. -/
theorem toFaceM (ws : List Int) (hx : ws.length = 26) (sp gp : Int) (A : Option Addr) (c : Nat) (l : List S44) (m : List S46) (hm : m = l.map toPr) (w : World) (hr : Kd.C k44 w A l.length l) (hc : l.length ≤ c) (hl : l.length ≤ 1048576) :
    Calls Try.prog 10 #[.agg (FV ws sp gp (.slice A l.length c))] w fun e w' => ∃ B d, e = .returned (.agg (FV ws sp gp (.slice B m.length d))) ∧ Kd.C k46 w' B m.length m ∧ m.length ≤ d ∧ Below w.heap.size w w' := by
  refine (toFaceC ws hx sp gp A c l w hr hc hl).mono ?_
  rintro e w' ⟨B, d, rfl, hR, hb⟩
  have hn : m.length = l.length := by rw [hm, List.length_map]
  have h := Kd.R_reads' hR
  rw [← hm] at h
  rw [hn]
  rw [hn] at h
  exact ⟨B, d, rfl, h.2.2, h.2.1, hb⟩
theorem szFaceR (ws : List Int) (hx : ws.length = 26) (sp gp : Int) (A : Option Addr) (c : Nat) (l : List S44) (b : Int) (h0 : 0 ≤ b) (hb : b ≤ 1048576) (w : World) (hr : Kd.C k44 w A l.length l) (hc : l.length ≤ c) (hl : l.length ≤ 9223372036854775807) (r : Int) (h : (if b - (l.length : Int) < 0 then -1 else b - (l.length : Int)) = r) :
    Calls Try.prog 8 #[.agg (FV ws sp gp (.slice A l.length c)), .int .i64 b] w fun e w' => e = .returned (.int .i64 r) ∧ Below w.heap.size w w' := by
  subst h
  exact szFaceC ws hx sp gp A c l b h0 hb w hr hc hl
/-- A new block, and a face laid into it. -/
theorem boxed (W : World) (U : TypeId) (ws : List Int) (sp gp : Int) (v : Value) :
    Below W.heap.size W ((W.alloc (.cells ZF U)).setRow W.heap.size (FV ws sp gp v)) ∧ ((W.alloc (.cells ZF U)).setRow W.heap.size (FV ws sp gp v)).heap[W.heap.size]? = some (.cells (FV ws sp gp v) U) ∧ W.heap.size < ((W.alloc (.cells ZF U)).setRow W.heap.size (FV ws sp gp v)).heap.size := by
  refine ⟨below_setRow (below_alloc (Below.refl _ _) _) (Nat.le_refl _) _, ?_, by rw [size_setRow]; simp⟩
  exact setRow_heap _ _ ZF _ _ _ (heap_alloc_new _ _)
theorem store_new (W : World) (U : TypeId) (ws : List Int) (hx : ws.length = 26) (sp gp : Int) (A : Option Addr) (n c : Nat) :
    (storeCells ⟨W.heap.size, 0, none⟩ (FV ws sp gp (.slice A n c)).toList 0).run Try.prog (W.alloc (.cells ZF U)) = .ok () ((W.alloc (.cells ZF U)).setRow W.heap.size (FV ws sp gp (.slice A n c))) :=
  storeF (ws := Z26) (sp := 0) (gp := 0) (v := .slice none 0 0) (heap_alloc_new _ _) Z26_len hx
theorem specSameR (ws ws' : List Int) (hx : ws.length = 26) (hx' : ws'.length = 26) (sp gp sp' gp' : Int) (A B : Option Addr) (c d : Nat) (l l' : List S46) (w : World) (hr : Kd.C k46 w A l.length l) (hc : l.length ≤ c) (hr' : Kd.C k46 w B l'.length l') (hd : l'.length ≤ d) (hl : l.length ≤ 1048576) (b : Bool) (h : sameB ws sp gp l ws' sp' gp' l' = b) :
    Calls Try.prog 13 #[.agg (FV ws sp gp (.slice A l.length c)), .agg (FV ws' sp' gp' (.slice B l'.length d))] w fun e w' => e = .returned (.bool b) ∧ Below w.heap.size w w' := by
  subst h
  exact specSameC ws ws' hx hx' sp gp sp' gp' A B c d l l' w hr hc hr' hd hl
theorem implSameR (ws ws' : List Int) (hx : ws.length = 26) (hx' : ws'.length = 26) (sp gp sp' gp' : Int) (A B : Option Addr) (c d : Nat) (l l' : List S46) (w : World) (hr : Kd.C k46 w A l.length l) (hc : l.length ≤ c) (hr' : Kd.C k46 w B l'.length l') (hd : l'.length ≤ d) (hl : l.length ≤ 1048576) (b : Bool) (h : sameB ws sp gp l ws' sp' gp' l' = b) :
    Calls Try.prog 14 #[.agg (FV ws sp gp (.slice A l.length c)), .agg (FV ws' sp' gp' (.slice B l'.length d))] w fun e w' => e = .returned (.bool b) ∧ Below w.heap.size w w' := by
  subst h
  exact implSameC ws ws' hx hx' sp gp sp' gp' A B c d l l' w hr hc hr' hd hl

set_option maxHeartbeats 8000000 in
set_option maxRecDepth 100000 in
theorem lawSameA (ws ws' : List Int) (hx : ws.length = 26) (hx' : ws'.length = 26) (sp gp sp' gp' : Int) (A B : Option Addr) (c d : Nat) (l l' : List S44) (w : World) (hr : Kd.C k44 w A l.length l) (hc : l.length ≤ c) (hr' : Kd.C k44 w B l'.length l') (hd : l'.length ≤ d) (hl : l.length ≤ 9223372036854775807) (hl' : l'.length ≤ 9223372036854775807) (hbig : 1048576 < (l.length : Int)) :
    Calls Try.prog 4 #[.agg (FV ws sp gp (.slice A l.length c)), .agg (FV ws' sp' gp' (.slice B l'.length d))] w fun e w' => e = .returned (.bool true) ∧ Below w.heap.size w w' := by
  have HV1 := Lib.hid (show (if (1048576 : Int) - (l.length : Int) < 0 then -1 else (1048576 : Int) - (l.length : Int)) = -1 from if_pos (by omega))
  clear hbig
  go_enter Try.func4, Try.ntmps4
  obtain ⟨M, hM⟩ : ∃ M : Nat, M = 29 := ⟨_, rfl⟩
  obtain ⟨S, hS⟩ : ∃ S : TypeId, S = 26 := ⟨_, rfl⟩
  obtain ⟨U, hU⟩ : ∃ U : TypeId, U = 31 := ⟨_, rfl⟩
  have hzS : ∀ w, (sizeOf S).run Try.prog w = .ok M w := fun w => by rw [hM, hS]; exact Try.sizeOf26 w
  have haS : ∀ w, (isAgg S).run Try.prog w = .ok true w := fun w => by rw [hS]; exact Try.isAgg26 w
  have hzU : ∀ w, (sizeOf U).run Try.prog w = .ok M w := fun w => by rw [hM, hU]; exact Try.sizeOf31 w
  have haU : ∀ w, (isAgg U).run Try.prog w = .ok true w := fun w => by rw [hU]; exact Try.isAgg31 w
  have hvU : ∀ w, (zeroValue U).run Try.prog w = .ok (.agg ZF) w := fun w => by rw [hU]; exact Try.zeroValue31 w
  have e1 : ∀ x, Op.load 26 x = Op.load S x := fun x => by rw [hS]
  have e2 : ∀ x, Op.load 31 x = Op.load U x := fun x => by rw [hU]
  have e3 : ∀ x y, Op.store 31 x y = Op.store U x y := fun x y => by rw [hU]
  have e4 : Op.alloc 31 = Op.alloc U := by rw [hU]
  simp only [e1, e2, e3, e4]
  clear e1 e2 e3 e4
  have HM := Lib.hid hM
  have HX := Lib.hid hx
  have HX' := Lib.hid hx'
  have HR := Lib.hid hr
  have HR' := Lib.hid hr'
  have HC := Lib.hid hc
  have HD := Lib.hid hd
  have HL := Lib.hid hl
  have HL' := Lib.hid hl'
  have hFa : ∀ v, (FV ws sp gp v).size = M := fun v => by rw [FV_size ws hx, hM]
  have hFb : ∀ v, (FV ws' sp' gp' v).size = M := fun v => by rw [FV_size ws' hx', hM]
  clear hM hS hU hx hx' hr hr' hc hd hl hl'
  have H2 := Lib.hid (two_blocks w (.cells (FV ws sp gp (.slice A l.length c)) 26) (.cells (FV ws' sp' gp' (.slice B l'.length d)) 26))
  have HB := Lib.hid (below_alloc (below_alloc (Below.refl _ w) (.cells (FV ws sp gp (.slice A l.length c)) 26)) (.cells (FV ws' sp' gp' (.slice B l'.length d)) 26))
  have HS2 := Lib.hid (show ((w.alloc (.cells (FV ws sp gp (.slice A l.length c)) 26)).alloc (.cells (FV ws' sp' gp' (.slice B l'.length d)) 26)).heap.size = w.heap.size + 2 by simp)
  have q0 := loadF H2.out.1 HX.out HM.out
  have q1 := loadF H2.out.2 HX'.out HM.out
  go_wp2_with (first
    | (go_at_call 8
       with_reducible refine (szFaceR ws HX.out sp gp A c l 1048576 (by decide) (by decide) _ (Kd.C_below HR.out HB.out) HC.out HL.out (-1) HV1.out).mono ?_
       rintro e w1 ⟨rfl, hb⟩
       have B1 := Lib.hid (below_step HB.out hb)
       have S1 := Lib.hid (show w.heap.size + 2 ≤ w1.heap.size from HS2.out ▸ hb.size)
       have K0 := Lib.hid ((hb.block w.heap.size (by rw [HS2.out]; omega)).trans H2.out.1)
       have K1 := Lib.hid ((hb.block (w.heap.size + 1) (by rw [HS2.out]; omega)).trans H2.out.2)
       clear hb
       have q2 := loadF K0.out HX.out HM.out
       have q3 := loadF K1.out HX'.out HM.out))
  go_ret
  exact ⟨rfl, B1.out⟩

set_option maxHeartbeats 8000000 in
set_option maxRecDepth 100000 in
theorem lawSameB (ws ws' : List Int) (hx : ws.length = 26) (hx' : ws'.length = 26) (sp gp sp' gp' : Int) (A B : Option Addr) (c d : Nat) (l l' : List S44) (w : World) (hr : Kd.C k44 w A l.length l) (hc : l.length ≤ c) (hr' : Kd.C k44 w B l'.length l') (hd : l'.length ≤ d) (hl : l.length ≤ 9223372036854775807) (hl' : l'.length ≤ 9223372036854775807) (hsm : (l.length : Int) ≤ 1048576) (hbig : 1048576 - (l.length : Int) < (l'.length : Int)) :
    Calls Try.prog 4 #[.agg (FV ws sp gp (.slice A l.length c)), .agg (FV ws' sp' gp' (.slice B l'.length d))] w fun e w' => e = .returned (.bool true) ∧ Below w.heap.size w w' := by
  obtain ⟨r1, e1⟩ : ∃ r1 : Int, r1 = 1048576 - (l.length : Int) := ⟨_, rfl⟩
  have HV1 := Lib.hid (show (if (1048576 : Int) - (l.length : Int) < 0 then -1 else (1048576 : Int) - (l.length : Int)) = r1 by rw [if_neg (by omega), e1])
  have HV2 := Lib.hid (show (if r1 - (l'.length : Int) < 0 then -1 else r1 - (l'.length : Int)) = -1 from if_pos (by omega))
  have hr0 : 0 ≤ r1 := by omega
  have hr1 : r1 ≤ 1048576 := by omega
  have hr2 : ¬ r1 < 0 := by omega
  clear hbig hsm e1
  go_enter Try.func4, Try.ntmps4
  obtain ⟨M, hM⟩ : ∃ M : Nat, M = 29 := ⟨_, rfl⟩
  obtain ⟨S, hS⟩ : ∃ S : TypeId, S = 26 := ⟨_, rfl⟩
  obtain ⟨U, hU⟩ : ∃ U : TypeId, U = 31 := ⟨_, rfl⟩
  have hzS : ∀ w, (sizeOf S).run Try.prog w = .ok M w := fun w => by rw [hM, hS]; exact Try.sizeOf26 w
  have haS : ∀ w, (isAgg S).run Try.prog w = .ok true w := fun w => by rw [hS]; exact Try.isAgg26 w
  have hzU : ∀ w, (sizeOf U).run Try.prog w = .ok M w := fun w => by rw [hM, hU]; exact Try.sizeOf31 w
  have haU : ∀ w, (isAgg U).run Try.prog w = .ok true w := fun w => by rw [hU]; exact Try.isAgg31 w
  have hvU : ∀ w, (zeroValue U).run Try.prog w = .ok (.agg ZF) w := fun w => by rw [hU]; exact Try.zeroValue31 w
  have e1 : ∀ x, Op.load 26 x = Op.load S x := fun x => by rw [hS]
  have e2 : ∀ x, Op.load 31 x = Op.load U x := fun x => by rw [hU]
  have e3 : ∀ x y, Op.store 31 x y = Op.store U x y := fun x y => by rw [hU]
  have e4 : Op.alloc 31 = Op.alloc U := by rw [hU]
  simp only [e1, e2, e3, e4]
  clear e1 e2 e3 e4
  have HM := Lib.hid hM
  have HX := Lib.hid hx
  have HX' := Lib.hid hx'
  have HR := Lib.hid hr
  have HR' := Lib.hid hr'
  have HC := Lib.hid hc
  have HD := Lib.hid hd
  have HL := Lib.hid hl
  have HL' := Lib.hid hl'
  have hFa : ∀ v, (FV ws sp gp v).size = M := fun v => by rw [FV_size ws hx, hM]
  have hFb : ∀ v, (FV ws' sp' gp' v).size = M := fun v => by rw [FV_size ws' hx', hM]
  clear hM hS hU hx hx' hr hr' hc hd hl hl'
  have H2 := Lib.hid (two_blocks w (.cells (FV ws sp gp (.slice A l.length c)) 26) (.cells (FV ws' sp' gp' (.slice B l'.length d)) 26))
  have HB := Lib.hid (below_alloc (below_alloc (Below.refl _ w) (.cells (FV ws sp gp (.slice A l.length c)) 26)) (.cells (FV ws' sp' gp' (.slice B l'.length d)) 26))
  have HS2 := Lib.hid (show ((w.alloc (.cells (FV ws sp gp (.slice A l.length c)) 26)).alloc (.cells (FV ws' sp' gp' (.slice B l'.length d)) 26)).heap.size = w.heap.size + 2 by simp)
  have q0 := loadF H2.out.1 HX.out HM.out
  have q1 := loadF H2.out.2 HX'.out HM.out
  go_wp2_with (first
    | (go_at_call 8
       with_reducible refine (szFaceR ws HX.out sp gp A c l 1048576 (by decide) (by decide) _ (Kd.C_below HR.out HB.out) HC.out HL.out r1 HV1.out).mono ?_
       rintro e w1 ⟨rfl, hb⟩
       have B1 := Lib.hid (below_step HB.out hb)
       have S1 := Lib.hid (show w.heap.size + 2 ≤ w1.heap.size from HS2.out ▸ hb.size)
       have K0 := Lib.hid ((hb.block w.heap.size (by rw [HS2.out]; omega)).trans H2.out.1)
       have K1 := Lib.hid ((hb.block (w.heap.size + 1) (by rw [HS2.out]; omega)).trans H2.out.2)
       clear hb
       have q2 := loadF K0.out HX.out HM.out
       have q3 := loadF K1.out HX'.out HM.out)
    | (go_at_call 8
       with_reducible refine (szFaceR ws' HX'.out sp' gp' B d l' r1 hr0 hr1 _ (Kd.C_below HR'.out B1.out) HD.out HL'.out (-1) HV2.out).mono ?_
       rintro e w2 ⟨rfl, hb⟩
       have B2 := Lib.hid (below_step B1.out hb)
       have S2 := Lib.hid (show w.heap.size + 2 ≤ w2.heap.size from Nat.le_trans S1.out hb.size)
       have J0 := Lib.hid ((hb.block w.heap.size (by have := S1.out; omega)).trans K0.out)
       have J1 := Lib.hid ((hb.block (w.heap.size + 1) (by have := S1.out; omega)).trans K1.out)
       clear hb K0 K1 q2 q3))
  go_ret
  exact ⟨rfl, B2.out⟩

set_option maxHeartbeats 8000000 in
set_option maxRecDepth 100000 in
theorem lawSameC (ws ws' : List Int) (hx : ws.length = 26) (hx' : ws'.length = 26) (sp gp sp' gp' : Int) (A B : Option Addr) (c d : Nat) (l l' : List S44) (w : World) (hr : Kd.C k44 w A l.length l) (hc : l.length ≤ c) (hr' : Kd.C k44 w B l'.length l') (hd : l'.length ≤ d) (hl : l.length ≤ 9223372036854775807) (hl' : l'.length ≤ 9223372036854775807) (hsm : (l.length : Int) ≤ 1048576) (hsm' : (l'.length : Int) ≤ 1048576 - (l.length : Int)) :
    Calls Try.prog 4 #[.agg (FV ws sp gp (.slice A l.length c)), .agg (FV ws' sp' gp' (.slice B l'.length d))] w fun e w' => e = .returned (.bool true) ∧ Below w.heap.size w w' := by
  obtain ⟨r1, e1⟩ : ∃ r1 : Int, r1 = 1048576 - (l.length : Int) := ⟨_, rfl⟩
  obtain ⟨r2, e2⟩ : ∃ r2 : Int, r2 = r1 - (l'.length : Int) := ⟨_, rfl⟩
  have HV1 := Lib.hid (show (if (1048576 : Int) - (l.length : Int) < 0 then -1 else (1048576 : Int) - (l.length : Int)) = r1 by rw [if_neg (by omega), e1])
  have HV2 := Lib.hid (show (if r1 - (l'.length : Int) < 0 then -1 else r1 - (l'.length : Int)) = r2 by rw [if_neg (by omega), e2])
  have hr0 : 0 ≤ r1 := by omega
  have hr1 : r1 ≤ 1048576 := by omega
  have hr2 : ¬ r1 < 0 := by omega
  have hr3 : ¬ r2 < 0 := by omega
  obtain ⟨m, hm⟩ : ∃ m, m = l.map toPr := ⟨_, rfl⟩
  obtain ⟨m', hm'⟩ : ∃ m', m' = l'.map toPr := ⟨_, rfl⟩
  have HP := Lib.hid hm
  have HP' := Lib.hid hm'
  have HN1 := Lib.hid (show l.length ≤ 1048576 by omega)
  have HN2 := Lib.hid (show l'.length ≤ 1048576 by omega)
  have HN3 := Lib.hid (show m.length ≤ 1048576 by rw [hm, List.length_map]; omega)
  have HN4 := Lib.hid (show m'.length ≤ 1048576 by rw [hm', List.length_map]; omega)
  obtain ⟨b, hb⟩ : ∃ b, sameB ws sp gp m ws' sp' gp' m' = b := ⟨_, rfl⟩
  have HSB := Lib.hid hb
  clear hb
  clear hsm hsm' e1 e2 hm hm'
  go_enter Try.func4, Try.ntmps4
  obtain ⟨M, hM⟩ : ∃ M : Nat, M = 29 := ⟨_, rfl⟩
  obtain ⟨S, hS⟩ : ∃ S : TypeId, S = 26 := ⟨_, rfl⟩
  obtain ⟨U, hU⟩ : ∃ U : TypeId, U = 31 := ⟨_, rfl⟩
  have hzS : ∀ w, (sizeOf S).run Try.prog w = .ok M w := fun w => by rw [hM, hS]; exact Try.sizeOf26 w
  have haS : ∀ w, (isAgg S).run Try.prog w = .ok true w := fun w => by rw [hS]; exact Try.isAgg26 w
  have hzU : ∀ w, (sizeOf U).run Try.prog w = .ok M w := fun w => by rw [hM, hU]; exact Try.sizeOf31 w
  have haU : ∀ w, (isAgg U).run Try.prog w = .ok true w := fun w => by rw [hU]; exact Try.isAgg31 w
  have hvU : ∀ w, (zeroValue U).run Try.prog w = .ok (.agg ZF) w := fun w => by rw [hU]; exact Try.zeroValue31 w
  have e1 : ∀ x, Op.load 26 x = Op.load S x := fun x => by rw [hS]
  have e2 : ∀ x, Op.load 31 x = Op.load U x := fun x => by rw [hU]
  have e3 : ∀ x y, Op.store 31 x y = Op.store U x y := fun x y => by rw [hU]
  have e4 : Op.alloc 31 = Op.alloc U := by rw [hU]
  simp only [e1, e2, e3, e4]
  clear e1 e2 e3 e4
  have HM := Lib.hid hM
  have HX := Lib.hid hx
  have HX' := Lib.hid hx'
  have HR := Lib.hid hr
  have HR' := Lib.hid hr'
  have HC := Lib.hid hc
  have HD := Lib.hid hd
  have HL := Lib.hid hl
  have HL' := Lib.hid hl'
  have hFa : ∀ v, (FV ws sp gp v).size = M := fun v => by rw [FV_size ws hx, hM]
  have hFb : ∀ v, (FV ws' sp' gp' v).size = M := fun v => by rw [FV_size ws' hx', hM]
  clear hM hS hU hx hx' hr hr' hc hd hl hl'
  have H2 := Lib.hid (two_blocks w (.cells (FV ws sp gp (.slice A l.length c)) 26) (.cells (FV ws' sp' gp' (.slice B l'.length d)) 26))
  have HB := Lib.hid (below_alloc (below_alloc (Below.refl _ w) (.cells (FV ws sp gp (.slice A l.length c)) 26)) (.cells (FV ws' sp' gp' (.slice B l'.length d)) 26))
  have HS2 := Lib.hid (show ((w.alloc (.cells (FV ws sp gp (.slice A l.length c)) 26)).alloc (.cells (FV ws' sp' gp' (.slice B l'.length d)) 26)).heap.size = w.heap.size + 2 by simp)
  have q0 := loadF H2.out.1 HX.out HM.out
  have q1 := loadF H2.out.2 HX'.out HM.out
  go_wp2_with (first
    | (go_at_call 8
       with_reducible refine (szFaceR ws HX.out sp gp A c l 1048576 (by decide) (by decide) _ (Kd.C_below HR.out HB.out) HC.out HL.out r1 HV1.out).mono ?_
       rintro e w1 ⟨rfl, hb⟩
       have B1 := Lib.hid (below_step HB.out hb)
       have S1 := Lib.hid (show w.heap.size + 2 ≤ w1.heap.size from HS2.out ▸ hb.size)
       have K0 := Lib.hid ((hb.block w.heap.size (by rw [HS2.out]; omega)).trans H2.out.1)
       have K1 := Lib.hid ((hb.block (w.heap.size + 1) (by rw [HS2.out]; omega)).trans H2.out.2)
       clear hb
       have q2 := loadF K0.out HX.out HM.out
       have q3 := loadF K1.out HX'.out HM.out)
    | (go_at_call 8
       with_reducible refine (szFaceR ws' HX'.out sp' gp' B d l' r1 hr0 hr1 _ (Kd.C_below HR'.out B1.out) HD.out HL'.out r2 HV2.out).mono ?_
       rintro e w2 ⟨rfl, hb⟩
       have B2 := Lib.hid (below_step B1.out hb)
       have S2 := Lib.hid (show w.heap.size + 2 ≤ w2.heap.size from Nat.le_trans S1.out hb.size)
       have J0 := Lib.hid ((hb.block w.heap.size (by have := S1.out; omega)).trans K0.out)
       have J1 := Lib.hid ((hb.block (w.heap.size + 1) (by have := S1.out; omega)).trans K1.out)
       clear hb K0 K1 q2 q3))
  clear q0 q1
  refine start_ (n := 6) (S := fun w' => w'.heap[w.heap.size]? = some (.cells (FV ws sp gp (.slice A l.length c)) 26) ∧ w'.heap[w.heap.size + 1]? = some (.cells (FV ws' sp' gp' (.slice B l'.length d)) 26)) (ds := []) #[false, false, false, false, false, false] (by kernel_rfl) rfl rfl ⟨blk_drew J0.out, blk_drew J1.out⟩ (fun hHeld => ?_)
  have B3 := Lib.hid (below_drew1 B2.out)
  have S3 := Lib.hid (show w.heap.size + 2 ≤ w2.drew.heap.size from S2.out)
  generalize w2.drew = w3 at B3 S3 hHeld ⊢
  refine take_ (i := 0) (N := some 20) (v := ?_) (a' := ?_) #[true, false, false, false, false, false] rfl rfl (by kernel_rfl) (fun _ _ _ h => h) (Or.inl ⟨by rfl, ?_⟩) hHeld ?_ ?_
  rotate_left
  · rintro w' ⟨s0, s1⟩
    have q := loadF s0 HX.out HM.out
    go_simp
    with_reducible rfl
  rotate_left
  · simp only [Act.put, List.setIfInBounds_toArray, List.set_cons_zero, List.set_cons_succ, i64_w, i32_w]
    rfl
  refine take_ (i := 2) (N := some 22) (v := ?_) (a' := ?_) #[true, false, true, false, false, false] rfl rfl (by kernel_rfl) (fun _ _ _ h => h) (Or.inl ⟨by rfl, ?_⟩) hHeld ?_ ?_
  rotate_left
  · rintro w' ⟨s0, s1⟩
    have q := loadF s1 HX'.out HM.out
    go_simp
    with_reducible rfl
  rotate_left
  · simp only [Act.put, List.setIfInBounds_toArray, List.set_cons_zero, List.set_cons_succ, i64_w, i32_w]
    rfl
  refine one_ (i := 1) (N := some 21) #[true, true, true, false, false, false] rfl rfl (by kernel_rfl) (by decide) (fun K hK => ?_)
  refine goes_ Try.func10 (by kernel_rfl) rfl #[.agg (FV ws sp gp (.slice A l.length c))] (by rfl) rfl rfl (by (try simp only [List.map_toArray, List.map_cons, List.map_nil]); first | done | rfl) ?_
  with_reducible refine (toFaceM ws HX.out sp gp A c l m HP.out _ (Kd.C_below HR.out B3.out) HC.out HN1.out).mono ?_
  rintro e w4 ⟨A1, c1, rfl, hC, hc, hb⟩
  refine ⟨_, rfl, ?_⟩
  have B4 := Lib.hid (below_step B3.out hb)
  have S4 := Lib.hid (Nat.le_trans S3.out hb.size)
  have K0 := Lib.hid ((hb.block w.heap.size (by have := S3.out; omega)).trans hHeld.1)
  have K1 := Lib.hid ((hb.block (w.heap.size + 1) (by have := S3.out; omega)).trans hHeld.2)
  have G1 := Lib.hid hC
  have D1 := Lib.hid hc
  clear hC hc hb hHeld
  refine hK.out _ _ ⟨K0.out, K1.out⟩ (fun hHeld => ?_)
  clear hK K
  refine norm_ (a' := ?_) ?_ ?_
  rotate_left
  · show Act.put _ (some 21) _ = _
    simp only [Act.put, List.setIfInBounds_toArray, List.set_cons_zero, List.set_cons_succ, i64_w, i32_w]
    rfl
  refine one_ (i := 3) (N := some 23) #[true, true, true, true, false, false] rfl rfl (by kernel_rfl) (by decide) (fun K hK => ?_)
  refine goes_ Try.func10 (by kernel_rfl) rfl #[.agg (FV ws' sp' gp' (.slice B l'.length d))] (by rfl) rfl rfl (by (try simp only [List.map_toArray, List.map_cons, List.map_nil]); first | done | rfl) ?_
  with_reducible refine (toFaceM ws' HX'.out sp' gp' B d l' m' HP'.out _ (Kd.C_below HR'.out B4.out) HD.out HN2.out).mono ?_
  rintro e w5 ⟨A2, c2, rfl, hC, hc, hb⟩
  refine ⟨_, rfl, ?_⟩
  have B5 := Lib.hid (below_step B4.out hb)
  have S5 := Lib.hid (Nat.le_trans S4.out hb.size)
  have L0 := Lib.hid ((hb.block w.heap.size (by have := S4.out; omega)).trans K0.out)
  have L1 := Lib.hid ((hb.block (w.heap.size + 1) (by have := S4.out; omega)).trans K1.out)
  have G1' := Lib.hid (Kd.C_below G1.out hb)
  have G2 := Lib.hid hC
  have D2 := Lib.hid hc
  clear hC hc hb hHeld K0 K1
  refine hK.out _ _ ⟨L0.out, L1.out⟩ (fun hHeld => ?_)
  clear hK K
  refine norm_ (a' := ?_) ?_ ?_
  rotate_left
  · show Act.put _ (some 23) _ = _
    simp only [Act.put, List.setIfInBounds_toArray, List.set_cons_zero, List.set_cons_succ, i64_w, i32_w]
    rfl
  refine one_ (i := 4) (N := some 24) #[true, true, true, true, true, false] rfl rfl (by kernel_rfl) (by decide) (fun K hK => ?_)
  refine goes_ Try.func13 (by kernel_rfl) rfl #[.agg (FV ws sp gp (.slice A1 m.length c1)), .agg (FV ws' sp' gp' (.slice A2 m'.length c2))] (by rfl) rfl rfl (by (try simp only [List.map_toArray, List.map_cons, List.map_nil]); first | done | rfl) ?_
  with_reducible refine (specSameR ws ws' HX.out HX'.out sp gp sp' gp' A1 A2 c1 c2 m m' _ G1'.out D1.out G2.out D2.out HN3.out b HSB.out).mono ?_
  rintro e w6 ⟨rfl, hb⟩
  refine ⟨_, rfl, ?_⟩
  have B6 := Lib.hid (below_step B5.out hb)
  have S6 := Lib.hid (Nat.le_trans S5.out hb.size)
  have K0 := Lib.hid ((hb.block w.heap.size (by have := S5.out; omega)).trans L0.out)
  have K1 := Lib.hid ((hb.block (w.heap.size + 1) (by have := S5.out; omega)).trans L1.out)
  clear hb hHeld L0 L1 G1 G1' G2 D1 D2
  refine hK.out _ _ ⟨K0.out, K1.out⟩ (fun hHeld => ?_)
  clear hK K
  refine norm_ (a' := ?_) ?_ ?_
  rotate_left
  · show Act.put _ (some 24) _ = _
    simp only [Act.put, List.setIfInBounds_toArray, List.set_cons_zero, List.set_cons_succ, i64_w, i32_w]
    rfl
  refine pure_ (i := 5) (N := some 6) (v := ?_) (a' := ?_) #[true, true, true, true, true, true] rfl rfl (by kernel_rfl) (fun _ _ _ h => h) (Or.inl ⟨by rfl, ?_⟩) ?_ ?_
  rotate_left
  · intro w'
    go_simp
    with_reducible rfl
  rotate_left
  · simp only [Act.put, List.setIfInBounds_toArray, List.set_cons_zero, List.set_cons_succ, i64_w, i32_w]
    rfl
  refine done_ (by kernel_rfl) ?_
  clear hHeld
  have q0 := loadF K0.out HX.out HM.out
  have tb : (b != b) = false := by simp
  go_wp2_with (first
    | (go_at_call 10
       with_reducible refine (toFaceM ws HX.out sp gp A c l m HP.out _ (Kd.C_below HR.out B6.out) HC.out HN1.out).mono ?_
       rintro e w7 ⟨A3, c3, rfl, hC, hc, hb⟩
       have B7 := Lib.hid (below_step B6.out hb)
       have S7 := Lib.hid (Nat.le_trans S6.out hb.size)
       have L0 := Lib.hid ((hb.block w.heap.size (by have := S6.out; omega)).trans K0.out)
       have L1 := Lib.hid ((hb.block (w.heap.size + 1) (by have := S6.out; omega)).trans K1.out)
       obtain ⟨x1, x2, x3⟩ := boxed w7 U ws sp gp (.slice A3 m.length c3)
       have hst := store_new w7 U ws HX.out sp gp A3 m.length c3
       obtain ⟨w8, hw8⟩ : ∃ w8, w8 = (w7.alloc (.cells ZF U)).setRow w7.heap.size (FV ws sp gp (.slice A3 m.length c3)) := ⟨_, rfl⟩
       rw [← hw8] at hst x1 x2 x3
       clear hw8
       have B8 := Lib.hid (below_step B7.out x1)
       have S8 := Lib.hid x3
       have M0 := Lib.hid ((x1.block w.heap.size (by have := S7.out; omega)).trans L0.out)
       have M1 := Lib.hid ((x1.block (w.heap.size + 1) (by have := S7.out; omega)).trans L1.out)
       have M2 := Lib.hid x2
       have G3 := Lib.hid (Kd.C_below hC x1)
       have D3 := Lib.hid hc
       clear x1 x2 x3 hC hc hb q0 K0 K1 L0 L1
       have q1 := loadF M1.out HX'.out HM.out)
    | (go_at_call 10
       with_reducible refine (toFaceM ws' HX'.out sp' gp' B d l' m' HP'.out _ (Kd.C_below HR'.out B8.out) HD.out HN2.out).mono ?_
       rintro e w9 ⟨A4, c4, rfl, hC, hc, hb⟩
       have B9 := Lib.hid (below_step B8.out hb)
       have S9 := Lib.hid (show w7.heap.size < w9.heap.size from Nat.lt_of_lt_of_le S8.out hb.size)
       have L0 := Lib.hid ((hb.block w.heap.size (by have := S7.out; have := S8.out; omega)).trans M0.out)
       have L1 := Lib.hid ((hb.block (w.heap.size + 1) (by have := S7.out; have := S8.out; omega)).trans M1.out)
       have L2 := Lib.hid ((hb.block w7.heap.size S8.out).trans M2.out)
       have G3' := Lib.hid (Kd.C_below G3.out hb)
       obtain ⟨x1, x2, x3⟩ := boxed w9 U ws' sp' gp' (.slice A4 m'.length c4)
       have hst2 := store_new w9 U ws' HX'.out sp' gp' A4 m'.length c4
       obtain ⟨w10, hw10⟩ : ∃ w10, w10 = (w9.alloc (.cells ZF U)).setRow w9.heap.size (FV ws' sp' gp' (.slice A4 m'.length c4)) := ⟨_, rfl⟩
       rw [← hw10] at hst2 x1 x2 x3
       clear hw10
       have B10 := Lib.hid (below_step B9.out x1)
       have S10 := Lib.hid x3
       have N0 := Lib.hid ((x1.block w.heap.size (by have := S7.out; have := S9.out; omega)).trans L0.out)
       have N1 := Lib.hid ((x1.block (w.heap.size + 1) (by have := S7.out; have := S9.out; omega)).trans L1.out)
       have N2 := Lib.hid ((x1.block w7.heap.size S9.out).trans L2.out)
       have N3 := Lib.hid x2
       have G3 := Lib.hid (Kd.C_below G3'.out x1)
       have G4 := Lib.hid (Kd.C_below hC x1)
       have D4 := Lib.hid hc
       clear x1 x2 x3 hC hc hb q1 L0 L1 L2 G3' M0 M1 M2
       have q2 := loadF N2.out HX.out HM.out
       have q3 := loadF N3.out HX'.out HM.out)
    | (go_at_call 14
       with_reducible refine (implSameR ws ws' HX.out HX'.out sp gp sp' gp' A3 A4 c3 c4 m m' _ G3.out D3.out G4.out D4.out HN3.out b HSB.out).mono ?_
       rintro e w11 ⟨rfl, hb⟩
       have B11 := Lib.hid (below_step B10.out hb)
       have S11 := Lib.hid (show w9.heap.size < w11.heap.size from Nat.lt_of_lt_of_le S10.out hb.size)
       have K0 := Lib.hid ((hb.block w.heap.size (by have := S7.out; have := S9.out; have := S10.out; omega)).trans N0.out)
       have K1 := Lib.hid ((hb.block (w.heap.size + 1) (by have := S7.out; have := S9.out; have := S10.out; omega)).trans N1.out)
       have K2 := Lib.hid ((hb.block w7.heap.size (by have := S9.out; have := S10.out; omega)).trans N2.out)
       have K3 := Lib.hid ((hb.block w9.heap.size S10.out).trans N3.out)
       have G5 := Lib.hid (Kd.C_below G3.out hb)
       have G6 := Lib.hid (Kd.C_below G4.out hb)
       clear hb q2 q3 N0 N1 N2 N3 G3 G4))
  have P7 := Lib.hid (show w.heap.size + 2 ≤ w7.heap.size from S7.out)
  have P9 := Lib.hid (show w7.heap.size < w9.heap.size from S9.out)
  refine start_ (n := 5) (S := fun w' => w'.heap[w.heap.size]? = some (.cells (FV ws sp gp (.slice A l.length c)) 26) ∧ w'.heap[w.heap.size + 1]? = some (.cells (FV ws' sp' gp' (.slice B l'.length d)) 26) ∧ w'.heap[w7.heap.size]? = some (.cells (FV ws sp gp (.slice A3 m.length c3)) U) ∧ w'.heap[w9.heap.size]? = some (.cells (FV ws' sp' gp' (.slice A4 m'.length c4)) U)) (ds := []) #[false, false, false, false, false] (by kernel_rfl) rfl rfl ⟨blk_drew K0.out, blk_drew K1.out, blk_drew K2.out, blk_drew K3.out⟩ (fun hHeld => ?_)
  have B12 := Lib.hid (below_drew1 B11.out)
  have S12 := Lib.hid (show w9.heap.size < w11.drew.heap.size from S11.out)
  have E5 := Lib.hid (Kd.C_drew G5.out)
  have E6 := Lib.hid (Kd.C_drew G6.out)
  generalize w11.drew = w12 at B12 S12 E5 E6 hHeld ⊢
  clear K0 K1 K2 K3 G5 G6
  refine take_ (i := 0) (N := some 35) (v := ?_) (a' := ?_) #[true, false, false, false, false] rfl rfl (by kernel_rfl) (fun _ _ _ h => h) (Or.inl ⟨by rfl, ?_⟩) hHeld ?_ ?_
  rotate_left
  · rintro w' ⟨s0, s1, s2, s3⟩
    have q := loadF s2 HX.out HM.out
    go_simp
    with_reducible rfl
  rotate_left
  · simp only [Act.put, List.setIfInBounds_toArray, List.set_cons_zero, List.set_cons_succ, i64_w, i32_w]
    rfl
  refine take_ (i := 1) (N := some 36) (v := ?_) (a' := ?_) #[true, true, false, false, false] rfl rfl (by kernel_rfl) (fun _ _ _ h => h) (Or.inl ⟨by rfl, ?_⟩) hHeld ?_ ?_
  rotate_left
  · rintro w' ⟨s0, s1, s2, s3⟩
    have q := loadF s0 HX.out HM.out
    go_simp
    with_reducible rfl
  rotate_left
  · simp only [Act.put, List.setIfInBounds_toArray, List.set_cons_zero, List.set_cons_succ, i64_w, i32_w]
    rfl
  refine one_ (i := 2) (N := some 37) #[true, true, true, false, false] rfl rfl (by kernel_rfl) (by decide) (fun K hK => ?_)
  refine goes_ Try.func10 (by kernel_rfl) rfl #[.agg (FV ws sp gp (.slice A l.length c))] (by rfl) rfl rfl (by (try simp only [List.map_toArray, List.map_cons, List.map_nil]); first | done | rfl) ?_
  with_reducible refine (toFaceM ws HX.out sp gp A c l m HP.out _ (Kd.C_below HR.out B12.out) HC.out HN1.out).mono ?_
  rintro e w13 ⟨A5, c5, rfl, hC, hc, hb⟩
  refine ⟨_, rfl, ?_⟩
  have B13 := Lib.hid (below_step B12.out hb)
  have S13 := Lib.hid (Nat.lt_of_lt_of_le S12.out hb.size)
  have K0 := Lib.hid ((hb.block w.heap.size (by have := P7.out; have := P9.out; have := S12.out; omega)).trans hHeld.1)
  have K1 := Lib.hid ((hb.block (w.heap.size + 1) (by have := P7.out; have := P9.out; have := S12.out; omega)).trans hHeld.2.1)
  have K2 := Lib.hid ((hb.block w7.heap.size (by have := P9.out; have := S12.out; omega)).trans hHeld.2.2.1)
  have K3 := Lib.hid ((hb.block w9.heap.size (by have := S12.out; omega)).trans hHeld.2.2.2)
  have F5 := Lib.hid (Kd.C_below E5.out hb)
  have F6 := Lib.hid (Kd.C_below E6.out hb)
  have G7 := Lib.hid hC
  have D7 := Lib.hid hc
  clear hC hc hb hHeld E5 E6
  refine hK.out _ _ ⟨K0.out, K1.out, K2.out, K3.out⟩ (fun hHeld => ?_)
  clear hK K
  refine norm_ (a' := ?_) ?_ ?_
  rotate_left
  · show Act.put _ (some 37) _ = _
    simp only [Act.put, List.setIfInBounds_toArray, List.set_cons_zero, List.set_cons_succ, i64_w, i32_w]
    rfl
  refine one_ (i := 3) (N := some 38) #[true, true, true, true, false] rfl rfl (by kernel_rfl) (by decide) (fun K hK => ?_)
  refine goes_ Try.func12 (by kernel_rfl) rfl #[.agg (FV ws sp gp (.slice A3 m.length c3)), .agg (FV ws sp gp (.slice A5 m.length c5))] (by rfl) rfl rfl (by (try simp only [List.map_toArray, List.map_cons, List.map_nil]); first | done | rfl) ?_
  with_reducible refine (eqFaceC ws HX.out sp gp A3 A5 c3 c5 m _ F5.out D3.out G7.out D7.out HN3.out).mono ?_
  rintro e w14 ⟨rfl, hb⟩
  refine ⟨_, rfl, ?_⟩
  have B14 := Lib.hid (below_step B13.out hb)
  have S14 := Lib.hid (Nat.lt_of_lt_of_le S13.out hb.size)
  clear K0 K1 K2 K3
  have K0 := Lib.hid ((hb.block w.heap.size (by have := P7.out; have := P9.out; have := S13.out; omega)).trans hHeld.1)
  have K1 := Lib.hid ((hb.block (w.heap.size + 1) (by have := P7.out; have := P9.out; have := S13.out; omega)).trans hHeld.2.1)
  have K2 := Lib.hid ((hb.block w7.heap.size (by have := P9.out; have := S13.out; omega)).trans hHeld.2.2.1)
  have K3 := Lib.hid ((hb.block w9.heap.size (by have := S13.out; omega)).trans hHeld.2.2.2)
  have E6 := Lib.hid (Kd.C_below F6.out hb)
  clear hb hHeld F5 F6 G7
  refine hK.out _ _ ⟨K0.out, K1.out, K2.out, K3.out⟩ (fun hHeld => ?_)
  clear hK K
  refine norm_ (a' := ?_) ?_ ?_
  rotate_left
  · show Act.put _ (some 38) _ = _
    simp only [Act.put, List.setIfInBounds_toArray, List.set_cons_zero, List.set_cons_succ, i64_w, i32_w]
    rfl
  refine pure_ (i := 4) (N := some 39) (v := ?_) (a' := ?_) #[true, true, true, true, true] rfl rfl (by kernel_rfl) (fun _ _ _ h => h) (Or.inl ⟨by rfl, ?_⟩) ?_ ?_
  rotate_left
  · intro w'
    go_simp
    with_reducible rfl
  rotate_left
  · simp only [Act.put, List.setIfInBounds_toArray, List.set_cons_zero, List.set_cons_succ, i64_w, i32_w]
    rfl
  refine done_ (by kernel_rfl) ?_
  clear hHeld
  go_wp2
  refine start_ (n := 5) (S := fun w' => w'.heap[w.heap.size]? = some (.cells (FV ws sp gp (.slice A l.length c)) 26) ∧ w'.heap[w.heap.size + 1]? = some (.cells (FV ws' sp' gp' (.slice B l'.length d)) 26) ∧ w'.heap[w7.heap.size]? = some (.cells (FV ws sp gp (.slice A3 m.length c3)) U) ∧ w'.heap[w9.heap.size]? = some (.cells (FV ws' sp' gp' (.slice A4 m'.length c4)) U)) (ds := []) #[false, false, false, false, false] (by kernel_rfl) rfl rfl ⟨blk_drew K0.out, blk_drew K1.out, blk_drew K2.out, blk_drew K3.out⟩ (fun hHeld => ?_)
  have B15 := Lib.hid (below_drew1 B14.out)
  have S15 := Lib.hid (show w9.heap.size < w14.drew.heap.size from S14.out)
  have F6 := Lib.hid (Kd.C_drew E6.out)
  generalize w14.drew = w15 at B15 S15 F6 hHeld ⊢
  clear K0 K1 K2 K3 E6
  refine take_ (i := 0) (N := some 40) (v := ?_) (a' := ?_) #[true, false, false, false, false] rfl rfl (by kernel_rfl) (fun _ _ _ h => h) (Or.inl ⟨by rfl, ?_⟩) hHeld ?_ ?_
  rotate_left
  · rintro w' ⟨s0, s1, s2, s3⟩
    have q := loadF s3 HX'.out HM.out
    go_simp
    with_reducible rfl
  rotate_left
  · simp only [Act.put, List.setIfInBounds_toArray, List.set_cons_zero, List.set_cons_succ, i64_w, i32_w]
    rfl
  refine take_ (i := 1) (N := some 41) (v := ?_) (a' := ?_) #[true, true, false, false, false] rfl rfl (by kernel_rfl) (fun _ _ _ h => h) (Or.inl ⟨by rfl, ?_⟩) hHeld ?_ ?_
  rotate_left
  · rintro w' ⟨s0, s1, s2, s3⟩
    have q := loadF s1 HX'.out HM.out
    go_simp
    with_reducible rfl
  rotate_left
  · simp only [Act.put, List.setIfInBounds_toArray, List.set_cons_zero, List.set_cons_succ, i64_w, i32_w]
    rfl
  refine one_ (i := 2) (N := some 42) #[true, true, true, false, false] rfl rfl (by kernel_rfl) (by decide) (fun K hK => ?_)
  refine goes_ Try.func10 (by kernel_rfl) rfl #[.agg (FV ws' sp' gp' (.slice B l'.length d))] (by rfl) rfl rfl (by (try simp only [List.map_toArray, List.map_cons, List.map_nil]); first | done | rfl) ?_
  with_reducible refine (toFaceM ws' HX'.out sp' gp' B d l' m' HP'.out _ (Kd.C_below HR'.out B15.out) HD.out HN2.out).mono ?_
  rintro e w16 ⟨A6, c6, rfl, hC, hc, hb⟩
  refine ⟨_, rfl, ?_⟩
  have B16 := Lib.hid (below_step B15.out hb)
  have S16 := Lib.hid (Nat.lt_of_lt_of_le S15.out hb.size)
  have K0 := Lib.hid ((hb.block w.heap.size (by have := P7.out; have := P9.out; have := S15.out; omega)).trans hHeld.1)
  have K1 := Lib.hid ((hb.block (w.heap.size + 1) (by have := P7.out; have := P9.out; have := S15.out; omega)).trans hHeld.2.1)
  have K2 := Lib.hid ((hb.block w7.heap.size (by have := P9.out; have := S15.out; omega)).trans hHeld.2.2.1)
  have K3 := Lib.hid ((hb.block w9.heap.size (by have := S15.out; omega)).trans hHeld.2.2.2)
  have E6 := Lib.hid (Kd.C_below F6.out hb)
  have G7 := Lib.hid hC
  have D7 := Lib.hid hc
  clear hC hc hb hHeld F6
  refine hK.out _ _ ⟨K0.out, K1.out, K2.out, K3.out⟩ (fun hHeld => ?_)
  clear hK K
  refine norm_ (a' := ?_) ?_ ?_
  rotate_left
  · show Act.put _ (some 42) _ = _
    simp only [Act.put, List.setIfInBounds_toArray, List.set_cons_zero, List.set_cons_succ, i64_w, i32_w]
    rfl
  refine one_ (i := 3) (N := some 43) #[true, true, true, true, false] rfl rfl (by kernel_rfl) (by decide) (fun K hK => ?_)
  refine goes_ Try.func12 (by kernel_rfl) rfl #[.agg (FV ws' sp' gp' (.slice A4 m'.length c4)), .agg (FV ws' sp' gp' (.slice A6 m'.length c6))] (by rfl) rfl rfl (by (try simp only [List.map_toArray, List.map_cons, List.map_nil]); first | done | rfl) ?_
  with_reducible refine (eqFaceC ws' HX'.out sp' gp' A4 A6 c4 c6 m' _ E6.out D4.out G7.out D7.out HN4.out).mono ?_
  rintro e w17 ⟨rfl, hb⟩
  refine ⟨_, rfl, ?_⟩
  have B17 := Lib.hid (below_step B16.out hb)
  clear K0 K1 K2 K3
  have K0 := Lib.hid ((hb.block w.heap.size (by have := P7.out; have := P9.out; have := S16.out; omega)).trans hHeld.1)
  have K1 := Lib.hid ((hb.block (w.heap.size + 1) (by have := P7.out; have := P9.out; have := S16.out; omega)).trans hHeld.2.1)
  have K2 := Lib.hid ((hb.block w7.heap.size (by have := P9.out; have := S16.out; omega)).trans hHeld.2.2.1)
  have K3 := Lib.hid ((hb.block w9.heap.size (by have := S16.out; omega)).trans hHeld.2.2.2)
  clear hb hHeld E6 G7
  refine hK.out _ _ ⟨K0.out, K1.out, K2.out, K3.out⟩ (fun hHeld => ?_)
  clear hK K
  refine norm_ (a' := ?_) ?_ ?_
  rotate_left
  · show Act.put _ (some 43) _ = _
    simp only [Act.put, List.setIfInBounds_toArray, List.set_cons_zero, List.set_cons_succ, i64_w, i32_w]
    rfl
  refine pure_ (i := 4) (N := some 44) (v := ?_) (a' := ?_) #[true, true, true, true, true] rfl rfl (by kernel_rfl) (fun _ _ _ h => h) (Or.inl ⟨by rfl, ?_⟩) ?_ ?_
  rotate_left
  · intro w'
    go_simp
    with_reducible rfl
  rotate_left
  · simp only [Act.put, List.setIfInBounds_toArray, List.set_cons_zero, List.set_cons_succ, i64_w, i32_w]
    rfl
  refine done_ (by kernel_rfl) ?_
  clear hHeld
  go_wp2
  go_ret
  exact ⟨rfl, B17.out⟩

theorem lawSame (ws ws' : List Int) (hx : ws.length = 26) (hx' : ws'.length = 26) (sp gp sp' gp' : Int) (A B : Option Addr) (c d : Nat) (l l' : List S44) (w : World) (hr : Kd.C k44 w A l.length l) (hc : l.length ≤ c) (hr' : Kd.C k44 w B l'.length l') (hd : l'.length ≤ d) :
    Calls Try.prog 4 #[.agg (FV ws sp gp (.slice A l.length c)), .agg (FV ws' sp' gp' (.slice B l'.length d))] w fun e w' => e = .returned (.bool true) ∧ Below w.heap.size w w' := by
  have hl := Kd.C_max hr
  have hl' := Kd.C_max hr'
  by_cases h1 : (l.length : Int) ≤ 1048576
  · by_cases h2 : (l'.length : Int) ≤ 1048576 - (l.length : Int)
    · exact lawSameC ws ws' hx hx' sp gp sp' gp' A B c d l l' w hr hc hr' hd hl hl' h1 h2
    · exact lawSameB ws ws' hx hx' sp gp sp' gp' A B c d l l' w hr hc hr' hd hl hl' h1 (by omega)
  · exact lawSameA ws ws' hx hx' sp gp sp' gp' A B c d l l' w hr hc hr' hd hl hl' (by omega)
end Go.Proofs.Ytjaamcedgdhilaa.Q
