/- The law LoosenFace holds, walked by hand. -/
import Derived.Test.YtjaamcedgdhilaaQhandLoosen2
import Derived.Test.YtjaamcedgdhilaaQhandLawKit
import Derived.Test.YtjaamcedgdhilaaQhandMarks
namespace Go.Proofs.Ytjaamcedgdhilaa.Q
open Go.RowKit Go.Proofs.YtjaamcedgdhilaaW.PrintWords Go.Proofs.YtjaamcedgdhilaaW.PrintLast Go.Proofs.YtjaamcedgdhilaaW.PrintMore
open Go.Proofs.Ytjaamcedgdhilaa.Pure
set_option linter.unusedVariables false
set_option linter.unusedSimpArgs false

theorem toFaceRM (ws : List Int) (hx : ws.length = 26) (sp gp : Int) (A : Option Addr) (c : Nat) (l : List S44) (m : List S46) (hm : m = l.map toPr) (w : World) (hr : Kd.C k44 w A l.length l) (hc : l.length ≤ c) (hl : l.length ≤ 1048576) :
    Calls Try.prog 10 #[.agg (FV ws sp gp (.slice A l.length c))] w fun e w' => ∃ B d, e = .returned (.agg (FV ws sp gp (.slice B m.length d))) ∧ Kd.R k46 46 w' w.heap.size (fun _ => True) (.slice B m.length d) m ∧ Below w.heap.size w w' := by
  refine (toFaceC ws hx sp gp A c l w hr hc hl).mono ?_
  rintro e w' ⟨B, d, rfl, hR, hb⟩
  have hn : m.length = l.length := by rw [hm, List.length_map]
  rw [← hm] at hR
  rw [hn]
  exact ⟨B, d, rfl, hR, hb⟩
theorem specLoosenD (ws : List Int) (hx : ws.length = 26) (sp gp : Int) (A : Option Addr) (c : Nat) (l : List S46) (n : Int) (w : World) (hr : Kd.C k46 w A l.length l) (hc : l.length ≤ c) (hl : l.length ≤ 1048576) (hf : Fit ws sp gp l) (rw : List Int) (rs rg : Int) (rl : List S46) (code : Int) (h : loosenR ws sp gp l n = ((rw, rs, rg, rl), code)) :
    Calls Try.prog 17 #[.agg (FV ws sp gp (.slice A l.length c)), .int .i64 n] w fun e w' => ∃ B d, e = .returned (.tuple #[.agg (FV rw rs rg (.slice B rl.length d)), .int .i64 code]) ∧ Kd.R k46 46 w' w.heap.size (fun _ => True) (.slice B rl.length d) rl ∧ Below w.heap.size w w' :=
  specLoosenC ws hx sp gp A c l n w hr hc hl hf (rw, rs, rg, rl) code h
theorem implLoosenD (ws : List Int) (hx : ws.length = 26) (sp gp : Int) (A : Option Addr) (c : Nat) (l : List S46) (n : Int) (w : World) (hr : Kd.C k46 w A l.length l) (hc : l.length ≤ c) (hl : l.length ≤ 1048576) (hf : Fit ws sp gp l) (rw : List Int) (rs rg : Int) (rl : List S46) (code : Int) (h : loosenR ws sp gp l n = ((rw, rs, rg, rl), code)) :
    Calls Try.prog 18 #[.agg (FV ws sp gp (.slice A l.length c)), .int .i64 n] w fun e w' => ∃ B d, e = .returned (.tuple #[.agg (FV rw rs rg (.slice B rl.length d)), .int .i64 code]) ∧ Kd.R k46 46 w' w.heap.size (fun _ => True) (.slice B rl.length d) rl ∧ Below w.heap.size w w' :=
  implLoosenC ws hx sp gp A c l n w hr hc hl hf (rw, rs, rg, rl) code h
theorem loosenR_len {ws : List Int} (hx : ws.length = 26) {sp gp : Int} {l : List S46} {n : Int} {r : Face} {code : Int} (h : loosenR ws sp gp l n = (r, code)) : r.1.length = 26 ∧ r.2.2.2.length ≤ l.length := by
  unfold loosenR at h
  split at h
  · split at h
    · split at h
      · obtain ⟨rfl, rfl⟩ := Prod.mk.inj h
        exact ⟨hx, Nat.le_refl _⟩
      · obtain ⟨rfl, rfl⟩ := Prod.mk.inj h
        exact ⟨rfl, Nat.zero_le _⟩
    · obtain ⟨rfl, rfl⟩ := Prod.mk.inj h
      exact ⟨rfl, Nat.zero_le _⟩
  · obtain ⟨rfl, rfl⟩ := Prod.mk.inj h
    exact ⟨rfl, Nat.zero_le _⟩
theorem markFaceR (ws : List Int) (hx : ws.length = 26) (sp gp : Int) (P0 : Nat → Prop) (A : Option Addr) (c : Nat) (l : List S46) (w0 w : World) (hB : Below w0.heap.size w0 w) (ho : Kd.R k46 46 w w0.heap.size P0 (.slice A l.length c) l) (hl : l.length ≤ 1048576) (k : Int) (hk : ((3 * l.length + 1 : Nat) : Int) = k) :
    Calls Try.prog 19 #[.agg (FV ws sp gp (.slice A l.length c)), .int .i64 1] w fun e w' => e = .returned (.int .i64 k) ∧ Kd.R k46 46 w' w0.heap.size P0 (.slice A l.length c) (marksP l.length) ∧ Below w0.heap.size w0 w' ∧ Kept w w' P0 := by
  subst hk
  exact markFaceC ws hx sp gp P0 A l.length c l w0 w hB ho hl
theorem heldFaceR (ws : List Int) (hx : ws.length = 26) (sp gp : Int) (A : Option Addr) (n c : Nat) (base : Nat) (ok : Nat → Prop) (w : World) (hr : Kd.R k46 46 w base ok (.slice A n c) (marksP n)) (hn : n ≤ 1048576) (k : Int) (hk : ((3 * n + 1 : Nat) : Int) = k) :
    Calls Try.prog 20 #[.agg (FV ws sp gp (.slice A n c)), .int .i64 1] w fun e w' => e = .returned (.int .i64 k) ∧ Below w.heap.size w w' := by
  subst hk
  have h := Kd.R_reads' hr
  rw [marksP_len] at h
  exact heldFaceC ws hx sp gp A n n c w h.2.2 h.2.1 hn

set_option maxHeartbeats 8000000 in
set_option maxRecDepth 100000 in
theorem lawLoosenA (ws : List Int) (hx : ws.length = 26) (sp gp : Int) (A : Option Addr) (c : Nat) (l : List S44) (n : Int) (w : World) (hr : Kd.C k44 w A l.length l) (hc : l.length ≤ c) (hl : l.length ≤ 9223372036854775807) (hbig : 1048576 < (l.length : Int)) :
    Calls Try.prog 6 #[.agg (FV ws sp gp (.slice A l.length c)), .int .i64 n] w fun e w' => e = .returned (.bool true) ∧ Below w.heap.size w w' := by
  have HV1 := Lib.hid (show (if (1048576 : Int) - (l.length : Int) < 0 then -1 else (1048576 : Int) - (l.length : Int)) = -1 from if_pos (by omega))
  clear hbig
  go_enter Try.func6, Try.ntmps6
  obtain ⟨M, hM⟩ : ∃ M : Nat, M = 29 := ⟨_, rfl⟩
  obtain ⟨S, hS⟩ : ∃ S : TypeId, S = 26 := ⟨_, rfl⟩
  obtain ⟨U, hU⟩ : ∃ U : TypeId, U = 31 := ⟨_, rfl⟩
  have hzS : ∀ w, (sizeOf S).run Try.prog w = .ok M w := fun w => by rw [hM, hS]; exact Try.sizeOf26 w
  have haS : ∀ w, (isAgg S).run Try.prog w = .ok true w := fun w => by rw [hS]; exact Try.isAgg26 w
  have hzU : ∀ w, (sizeOf U).run Try.prog w = .ok M w := fun w => by rw [hM, hU]; exact Try.sizeOf31 w
  have haU : ∀ w, (isAgg U).run Try.prog w = .ok true w := fun w => by rw [hU]; exact Try.isAgg31 w
  have hvU : ∀ w, (zeroValue U).run Try.prog w = .ok (.agg ZF) w := fun w => by rw [hU]; exact Try.zeroValue31 w
  have e1 : ∀ x, Op.load 26 x = Op.load S x := fun x => by rw [hS]
  have e2 : ∀ x, Op.load 31 x = Op.load U x := fun x => by rw [hU]
  have e3 : ∀ x y, Op.store 31 x y = Op.store U x y := fun x y => by rw [hU]
  have e4 : Op.alloc 31 = Op.alloc U := by rw [hU]
  simp only [e1, e2, e3, e4]
  clear e1 e2 e3 e4
  have HM := Lib.hid hM
  have HX := Lib.hid hx
  have HR := Lib.hid hr
  have HC := Lib.hid hc
  have HL := Lib.hid hl
  have hFa : ∀ v, (FV ws sp gp v).size = M := fun v => by rw [FV_size ws hx, hM]
  clear hM hS hU hx hr hc hl
  have H1 := Lib.hid (heap_alloc_new w (.cells (FV ws sp gp (.slice A l.length c)) 26))
  have HB := Lib.hid (below_alloc (Below.refl w.heap.size w) (.cells (FV ws sp gp (.slice A l.length c)) 26))
  have HS1 := Lib.hid (show (w.alloc (.cells (FV ws sp gp (.slice A l.length c)) 26)).heap.size = w.heap.size + 1 by simp)
  have q0 := loadF H1.out HX.out HM.out
  go_wp2_with (first
    | (go_at_call 8
       with_reducible refine (szFaceR ws HX.out sp gp A c l 1048576 (by decide) (by decide) _ (Kd.C_below HR.out HB.out) HC.out HL.out (-1) HV1.out).mono ?_
       rintro e w1 ⟨rfl, hb⟩
       have B1 := Lib.hid (below_step HB.out hb)
       have S1 := Lib.hid (show w.heap.size + 1 ≤ w1.heap.size from HS1.out ▸ hb.size)
       have K0 := Lib.hid ((hb.block w.heap.size (by rw [HS1.out]; omega)).trans H1.out)
       clear hb q0
       have q0 := loadF K0.out HX.out HM.out))
  go_ret
  exact ⟨rfl, B1.out⟩

set_option maxHeartbeats 8000000 in
set_option maxRecDepth 100000 in
theorem lawLoosenC (ws : List Int) (hx : ws.length = 26) (sp gp : Int) (A : Option Addr) (c : Nat) (l : List S44) (n : Int) (w : World) (hr : Kd.C k44 w A l.length l) (hc : l.length ≤ c) (hl : l.length ≤ 9223372036854775807) (hsm : (l.length : Int) ≤ 1048576) (hfit : Fit ws sp gp (l.map toPr)) :
    Calls Try.prog 6 #[.agg (FV ws sp gp (.slice A l.length c)), .int .i64 n] w fun e w' => e = .returned (.bool true) ∧ Below w.heap.size w w' := by
  obtain ⟨r1, e1⟩ : ∃ r1 : Int, r1 = 1048576 - (l.length : Int) := ⟨_, rfl⟩
  have HV1 := Lib.hid (show (if (1048576 : Int) - (l.length : Int) < 0 then -1 else (1048576 : Int) - (l.length : Int)) = r1 by rw [if_neg (by omega), e1])
  have hr2 : ¬ r1 < 0 := by omega
  obtain ⟨m, hm⟩ : ∃ m, m = l.map toPr := ⟨_, rfl⟩
  rw [← hm] at hfit
  have HP := Lib.hid hm
  have HN1 := Lib.hid (show l.length ≤ 1048576 by omega)
  have HN3 := Lib.hid (show m.length ≤ 1048576 by rw [hm, List.length_map]; omega)
  have HFT := Lib.hid hfit
  obtain ⟨rw, rs, rg, rl, code, hb⟩ : ∃ rw rs rg rl code, loosenR ws sp gp m n = ((rw, rs, rg, rl), code) := ⟨_, _, _, _, _, rfl⟩
  have HLR := Lib.hid hb
  have HRX := Lib.hid (show rw.length = 26 from (loosenR_len hx hb).1)
  have HRL := Lib.hid (show rl.length ≤ 1048576 by have h1 : rl.length ≤ m.length := (loosenR_len hx hb).2; rw [hm, List.length_map] at h1; omega)
  clear hb
  have tb : (code != code) = false := by simp
  obtain ⟨kx, hkx⟩ : ∃ kx : Int, ((3 * m.length + 1 : Nat) : Int) = kx := ⟨_, rfl⟩
  obtain ⟨kg, hkg⟩ : ∃ kg : Int, ((3 * rl.length + 1 : Nat) : Int) = kg := ⟨_, rfl⟩
  have tx : ¬ kx < 0 := by omega
  have tg : ¬ kg < 0 := by omega
  have tk : (kg != kg) = false := by simp
  have HKX := Lib.hid hkx
  have HKG := Lib.hid hkg
  clear hkx hkg
  clear hsm e1 hm hfit
  go_enter Try.func6, Try.ntmps6
  obtain ⟨M, hM⟩ : ∃ M : Nat, M = 29 := ⟨_, rfl⟩
  obtain ⟨S, hS⟩ : ∃ S : TypeId, S = 26 := ⟨_, rfl⟩
  obtain ⟨U, hU⟩ : ∃ U : TypeId, U = 31 := ⟨_, rfl⟩
  have hzS : ∀ w, (sizeOf S).run Try.prog w = .ok M w := fun w => by rw [hM, hS]; exact Try.sizeOf26 w
  have haS : ∀ w, (isAgg S).run Try.prog w = .ok true w := fun w => by rw [hS]; exact Try.isAgg26 w
  have hzU : ∀ w, (sizeOf U).run Try.prog w = .ok M w := fun w => by rw [hM, hU]; exact Try.sizeOf31 w
  have haU : ∀ w, (isAgg U).run Try.prog w = .ok true w := fun w => by rw [hU]; exact Try.isAgg31 w
  have hvU : ∀ w, (zeroValue U).run Try.prog w = .ok (.agg ZF) w := fun w => by rw [hU]; exact Try.zeroValue31 w
  have e1 : ∀ x, Op.load 26 x = Op.load S x := fun x => by rw [hS]
  have e2 : ∀ x, Op.load 31 x = Op.load U x := fun x => by rw [hU]
  have e3 : ∀ x y, Op.store 31 x y = Op.store U x y := fun x y => by rw [hU]
  have e4 : Op.alloc 31 = Op.alloc U := by rw [hU]
  simp only [e1, e2, e3, e4]
  clear e1 e2 e3 e4
  have HM := Lib.hid hM
  have HX := Lib.hid hx
  have HR := Lib.hid hr
  have HC := Lib.hid hc
  have HL := Lib.hid hl
  have hFa : ∀ v, (FV ws sp gp v).size = M := fun v => by rw [FV_size ws hx, hM]
  have hFr : ∀ v, (FV rw rs rg v).size = M := fun v => by rw [FV_size rw HRX.out, hM]
  clear hM hS hU hx hr hc hl
  have H1 := Lib.hid (heap_alloc_new w (.cells (FV ws sp gp (.slice A l.length c)) 26))
  have HB := Lib.hid (below_alloc (Below.refl w.heap.size w) (.cells (FV ws sp gp (.slice A l.length c)) 26))
  have HS1 := Lib.hid (show (w.alloc (.cells (FV ws sp gp (.slice A l.length c)) 26)).heap.size = w.heap.size + 1 by simp)
  have q0 := loadF H1.out HX.out HM.out
  go_wp2_with (first
    | (go_at_call 8
       with_reducible refine (szFaceR ws HX.out sp gp A c l 1048576 (by decide) (by decide) _ (Kd.C_below HR.out HB.out) HC.out HL.out r1 HV1.out).mono ?_
       rintro e w1 ⟨rfl, hb⟩
       have B1 := Lib.hid (below_step HB.out hb)
       have S1 := Lib.hid (show w.heap.size + 1 ≤ w1.heap.size from HS1.out ▸ hb.size)
       have K0 := Lib.hid ((hb.block w.heap.size (by rw [HS1.out]; omega)).trans H1.out)
       clear hb q0
       have q0 := loadF K0.out HX.out HM.out)
    | (go_at_call 10
       with_reducible refine (toFaceM ws HX.out sp gp A c l m HP.out _ (Kd.C_below HR.out B1.out) HC.out HN1.out).mono ?_
       rintro e w2 ⟨A2, c2, rfl, hC, hc, hb⟩
       have B2 := Lib.hid (below_step B1.out hb)
       have S2 := Lib.hid (Nat.le_trans S1.out hb.size)
       have K2 := Lib.hid ((hb.block w.heap.size (by have := S1.out; omega)).trans K0.out)
       have G2 := Lib.hid hC
       have D2 := Lib.hid hc
       clear hC hc hb K0 q0)
    | (go_at_call 17
       with_reducible refine (specLoosenD ws HX.out sp gp A2 c2 m n _ G2.out D2.out HN3.out HFT.out rw rs rg rl code HLR.out).mono ?_
       rintro e w3 ⟨Bw, dw, rfl, hR, hb⟩
       have B3 := Lib.hid (below_step B2.out hb)
       have S3 := Lib.hid (show w2.heap.size ≤ w3.heap.size from hb.size)
       have R3 := Lib.hid (Kd.R_lower (Kd.R_mono (Kd.R_bound hR) (fun k hk => show w2.heap.size ≤ k ∧ k < w3.heap.size from ⟨hk.2.1, hk.2.2.1⟩)) (show w.heap.size ≤ w2.heap.size by have := S2.out; omega))
       have K3 := Lib.hid ((hb.block w.heap.size (by have := S2.out; omega)).trans K2.out)
       obtain ⟨x1, x2, x3⟩ := boxed w3 U rw rs rg (.slice Bw rl.length dw)
       have hstw4 := store_new w3 U rw HRX.out rs rg Bw rl.length dw
       obtain ⟨w4, hww4⟩ : ∃ w4, w4 = (w3.alloc (.cells ZF U)).setRow w3.heap.size (FV rw rs rg (.slice Bw rl.length dw)) := ⟨_, rfl⟩
       rw [← hww4] at hstw4 x1 x2 x3
       clear hww4
       have B4 := Lib.hid (below_step B3.out x1)
       have S4 := Lib.hid x3
       have K4 := Lib.hid ((x1.block w.heap.size (by have := S2.out; have := S3.out; omega)).trans K3.out)
       have C4 := Lib.hid x2
       have R4 := Lib.hid (Kd.R_below R3.out x1)
       clear x1 x2 x3 hR hb K2 K3 R3 G2 D2
       have q4 := loadF K4.out HX.out HM.out)
    | (go_at_call 10
       with_reducible refine (toFaceRM ws HX.out sp gp A c l m HP.out _ (Kd.C_below HR.out B4.out) HC.out HN1.out).mono ?_
       rintro e w5 ⟨A3, c3, rfl, hR, hb⟩
       have B5 := Lib.hid (below_step B4.out hb)
       have S5 := Lib.hid (show w4.heap.size ≤ w5.heap.size from hb.size)
       have X5 := Lib.hid (Kd.R_lower (Kd.R_mono (Kd.R_bound hR) (fun k hk => show w4.heap.size ≤ k ∧ k < w5.heap.size from ⟨hk.2.1, hk.2.2.1⟩)) (show w.heap.size ≤ w4.heap.size by have := S2.out; have := S3.out; have := S4.out; omega))
       have K5 := Lib.hid ((hb.block w.heap.size (by have := S2.out; have := S3.out; have := S4.out; omega)).trans K4.out)
       have C5 := Lib.hid ((hb.block w3.heap.size S4.out).trans C4.out)
       have R5 := Lib.hid (Kd.R_below R4.out hb)
       obtain ⟨x1, x2, x3⟩ := boxed w5 U ws sp gp (.slice A3 m.length c3)
       have hstw6 := store_new w5 U ws HX.out sp gp A3 m.length c3
       obtain ⟨w6, hww6⟩ : ∃ w6, w6 = (w5.alloc (.cells ZF U)).setRow w5.heap.size (FV ws sp gp (.slice A3 m.length c3)) := ⟨_, rfl⟩
       rw [← hww6] at hstw6 x1 x2 x3
       clear hww6
       have B6 := Lib.hid (below_step B5.out x1)
       have S6 := Lib.hid x3
       have K6 := Lib.hid ((x1.block w.heap.size (by have := S2.out; have := S3.out; have := S4.out; have := S5.out; omega)).trans K5.out)
       have C6 := Lib.hid ((x1.block w3.heap.size (by have := S4.out; have := S5.out; omega)).trans C5.out)
       have E6 := Lib.hid x2
       have R6 := Lib.hid (Kd.R_below R5.out x1)
       have X6 := Lib.hid (Kd.R_below X5.out x1)
       clear x1 x2 x3 hR hb K4 K5 C4 C5 R4 R5 X5 q4 hstw4
       have q6 := loadF E6.out HX.out HM.out)
    | (go_at_call 18
       with_reducible refine (implLoosenD ws HX.out sp gp A3 c3 m n _ (Kd.R_reads' X6.out).2.2 (Kd.R_reads' X6.out).2.1 HN3.out HFT.out rw rs rg rl code HLR.out).mono ?_
       rintro e w7 ⟨Bg, dg, rfl, hR, hb⟩
       have B7 := Lib.hid (below_step B6.out hb)
       have S7 := Lib.hid (show w6.heap.size ≤ w7.heap.size from hb.size)
       have Y7 := Lib.hid (Kd.R_lower (Kd.R_mono (Kd.R_bound hR) (fun k hk => show w6.heap.size ≤ k ∧ k < w7.heap.size from ⟨hk.2.1, hk.2.2.1⟩)) (show w.heap.size ≤ w6.heap.size by have := S2.out; have := S3.out; have := S4.out; have := S5.out; have := S6.out; omega))
       have K7 := Lib.hid ((hb.block w.heap.size (by have := S2.out; have := S3.out; have := S4.out; have := S5.out; have := S6.out; omega)).trans K6.out)
       have C7 := Lib.hid ((hb.block w3.heap.size (by have := S4.out; have := S5.out; have := S6.out; omega)).trans C6.out)
       have E7 := Lib.hid ((hb.block w5.heap.size S6.out).trans E6.out)
       have R7 := Lib.hid (Kd.R_below R6.out hb)
       have X7 := Lib.hid (Kd.R_below X6.out hb)
       obtain ⟨x1, x2, x3⟩ := boxed w7 U rw rs rg (.slice Bg rl.length dg)
       have hstw8 := store_new w7 U rw HRX.out rs rg Bg rl.length dg
       obtain ⟨w8, hww8⟩ : ∃ w8, w8 = (w7.alloc (.cells ZF U)).setRow w7.heap.size (FV rw rs rg (.slice Bg rl.length dg)) := ⟨_, rfl⟩
       rw [← hww8] at hstw8 x1 x2 x3
       clear hww8
       have B8 := Lib.hid (below_step B7.out x1)
       have S8 := Lib.hid x3
       have I8 := Lib.hid (show Inv (FV ws sp gp (.slice A l.length c)) (FV rw rs rg (.slice Bw rl.length dw)) (FV ws sp gp (.slice A3 m.length c3)) (FV rw rs rg (.slice Bg rl.length dg)) 26 U w.heap.size w2.heap.size w3.heap.size w4.heap.size w5.heap.size w6.heap.size w7.heap.size w.heap.size (.slice Bw rl.length dw) (.slice A3 m.length c3) (.slice Bg rl.length dg) rl m rl w8 from ⟨⟨by have := S2.out; omega, S3.out, S4.out, S5.out, S6.out, S7.out⟩, (x1.block _ (blk_lt K7.out)).trans K7.out, (x1.block _ (blk_lt C7.out)).trans C7.out, (x1.block _ (blk_lt E7.out)).trans E7.out, x2, Kd.R_below R7.out x1, Kd.R_below X7.out x1, Kd.R_below Y7.out x1⟩)
       clear x1 x2 x3 hR hb K6 K7 C6 C7 E6 E7 R6 R7 X6 X7 Y7 q6 hstw6
       have q9 := loadF I8.out.k9 HRX.out HM.out
       have q10 := loadF I8.out.k6 HRX.out HM.out)
    | (go_at_call 12
       with_reducible refine (eqFaceC rw HRX.out rs rg Bg Bw dg dw rl _ (Kd.R_reads' I8.out.rg).2.2 (Kd.R_reads' I8.out.rg).2.1 (Kd.R_reads' I8.out.rw).2.2 (Kd.R_reads' I8.out.rw).2.1 HRL.out).mono ?_
       rintro e w9 ⟨rfl, hb⟩
       have B9 := Lib.hid (below_step B8.out hb)
       have I9 := Lib.hid (I8.out.below hb)
       clear hb I8 q9 q10))
  refine start_ (n := 5) (S := fun w' => Inv (FV ws sp gp (.slice A l.length c)) (FV rw rs rg (.slice Bw rl.length dw)) (FV ws sp gp (.slice A3 m.length c3)) (FV rw rs rg (.slice Bg rl.length dg)) 26 U w.heap.size w2.heap.size w3.heap.size w4.heap.size w5.heap.size w6.heap.size w7.heap.size w.heap.size (.slice Bw rl.length dw) (.slice A3 m.length c3) (.slice Bg rl.length dg) rl m rl w') (ds := []) #[false, false, false, false, false] (by kernel_rfl) rfl rfl (I9.out.below (below_drew1 (Below.refl _ _))) (fun hHeld => ?_)
  have B12 := Lib.hid (below_drew1 B9.out)
  generalize w9.drew = w12 at B12 hHeld ⊢
  clear I9
  refine take_ (i := 0) (N := some 45) (v := ?_) (a' := ?_) #[true, false, false, false, false] rfl rfl (by kernel_rfl) (fun _ _ _ h => h) (Or.inl ⟨by rfl, ?_⟩) hHeld ?_ ?_
  rotate_left
  · rintro w' s
    have q := loadF s.k8 HX.out HM.out
    go_simp
    with_reducible rfl
  rotate_left
  · simp only [Act.put, List.setIfInBounds_toArray, List.set_cons_zero, List.set_cons_succ, i64_w, i32_w]
    rfl
  refine take_ (i := 1) (N := some 46) (v := ?_) (a' := ?_) #[true, true, false, false, false] rfl rfl (by kernel_rfl) (fun _ _ _ h => h) (Or.inl ⟨by rfl, ?_⟩) hHeld ?_ ?_
  rotate_left
  · rintro w' s
    have q := loadF s.k0 HX.out HM.out
    go_simp
    with_reducible rfl
  rotate_left
  · simp only [Act.put, List.setIfInBounds_toArray, List.set_cons_zero, List.set_cons_succ, i64_w, i32_w]
    rfl
  refine one_ (i := 2) (N := some 47) #[true, true, true, false, false] rfl rfl (by kernel_rfl) (by decide) (fun K hK => ?_)
  refine goes_ Try.func10 (by kernel_rfl) rfl #[.agg (FV ws sp gp (.slice A l.length c))] (by rfl) rfl rfl (by (try simp only [List.map_toArray, List.map_cons, List.map_nil]); first | done | rfl) ?_
  with_reducible refine (toFaceM ws HX.out sp gp A c l m HP.out _ (Kd.C_below HR.out B12.out) HC.out HN1.out).mono ?_
  rintro e w13 ⟨A5, c5, rfl, hC, hc, hb⟩
  refine ⟨_, rfl, ?_⟩
  have B13 := Lib.hid (below_step B12.out hb)
  have I13 := Lib.hid (hHeld.below hb)
  have G7 := Lib.hid hC
  have D7 := Lib.hid hc
  clear hC hc hb hHeld
  refine hK.out _ _ I13.out (fun hHeld => ?_)
  clear hK K
  refine norm_ (a' := ?_) ?_ ?_
  rotate_left
  · show Act.put _ (some 47) _ = _
    simp only [Act.put, List.setIfInBounds_toArray, List.set_cons_zero, List.set_cons_succ, i64_w, i32_w]
    rfl
  refine one_ (i := 3) (N := some 48) #[true, true, true, true, false] rfl rfl (by kernel_rfl) (by decide) (fun K hK => ?_)
  refine goes_ Try.func12 (by kernel_rfl) rfl #[.agg (FV ws sp gp (.slice A3 m.length c3)), .agg (FV ws sp gp (.slice A5 m.length c5))] (by rfl) rfl rfl (by (try simp only [List.map_toArray, List.map_cons, List.map_nil]); first | done | rfl) ?_
  with_reducible refine (eqFaceC ws HX.out sp gp A3 A5 c3 c5 m _ (Kd.R_reads' hHeld.rx).2.2 (Kd.R_reads' hHeld.rx).2.1 G7.out D7.out HN3.out).mono ?_
  rintro e w14 ⟨rfl, hb⟩
  refine ⟨_, rfl, ?_⟩
  have B14 := Lib.hid (below_step B13.out hb)
  clear I13
  have I14 := Lib.hid (hHeld.below hb)
  clear hb hHeld G7
  refine hK.out _ _ I14.out (fun hHeld => ?_)
  clear hK K
  refine norm_ (a' := ?_) ?_ ?_
  rotate_left
  · show Act.put _ (some 48) _ = _
    simp only [Act.put, List.setIfInBounds_toArray, List.set_cons_zero, List.set_cons_succ, i64_w, i32_w]
    rfl
  refine pure_ (i := 4) (N := some 49) (v := ?_) (a' := ?_) #[true, true, true, true, true] rfl rfl (by kernel_rfl) (fun _ _ _ h => h) (Or.inl ⟨by rfl, ?_⟩) ?_ ?_
  rotate_left
  · intro w'
    go_simp
    with_reducible rfl
  rotate_left
  · simp only [Act.put, List.setIfInBounds_toArray, List.set_cons_zero, List.set_cons_succ, i64_w, i32_w]
    rfl
  refine done_ (by kernel_rfl) ?_
  clear hHeld
  have q8 := loadF I14.out.k8 HX.out HM.out
  go_wp2_with (first
    | (go_at_call 19
       with_reducible refine (markFaceR ws HX.out sp gp (fun k => w4.heap.size ≤ k ∧ k < w5.heap.size) A3 c3 m w _ B14.out I14.out.rx HN3.out kx HKX.out).mono ?_
       rintro e w15 ⟨rfl, hR, hb, hk⟩
       have B15 := Lib.hid hb
       have I15 := Lib.hid (I14.out.markX hk hR)
       clear hR hb hk q8 I14
       have q9 := loadF I15.out.k9 HRX.out HM.out
       have q10 := loadF I15.out.k6 HRX.out HM.out)
    | (go_at_call 12
       with_reducible refine (eqFaceC rw HRX.out rs rg Bg Bw dg dw rl _ (Kd.R_reads' I15.out.rg).2.2 (Kd.R_reads' I15.out.rg).2.1 (Kd.R_reads' I15.out.rw).2.2 (Kd.R_reads' I15.out.rw).2.1 HRL.out).mono ?_
       rintro e w16 ⟨rfl, hb⟩
       have B16 := Lib.hid (below_step B15.out hb)
       have I16 := Lib.hid (I15.out.below hb)
       clear hb I15 q9 q10
       have q9 := loadF I16.out.k9 HRX.out HM.out)
    | (go_at_call 19
       with_reducible refine (markFaceR rw HRX.out rs rg (fun k => w6.heap.size ≤ k ∧ k < w7.heap.size) Bg dg rl w _ B16.out I16.out.rg HRL.out kg HKG.out).mono ?_
       rintro e w17 ⟨rfl, hR, hb, hk⟩
       have B17 := Lib.hid hb
       have I17 := Lib.hid (I16.out.markG hk hR)
       clear hR hb hk q9 I16
       have q9 := loadF I17.out.k9 HRX.out HM.out)
    | (go_at_call 20
       with_reducible refine (heldFaceR rw HRX.out rs rg Bg rl.length dg _ _ _ I17.out.rg HRL.out kg HKG.out).mono ?_
       rintro e w18 ⟨rfl, hb⟩
       have B18 := Lib.hid (below_step B17.out hb)
       have I18 := Lib.hid (I17.out.below hb)
       clear hb I17 q9
       have q0 := loadF I18.out.k0 HX.out HM.out)
    | (go_at_call 10
       with_reducible refine (toFaceM ws HX.out sp gp A c l m HP.out _ (Kd.C_below HR.out B18.out) HC.out HN1.out).mono ?_
       rintro e w19 ⟨A6, c6, rfl, hC, hc, hb⟩
       have B19 := Lib.hid (below_step B18.out hb)
       have I19 := Lib.hid (I18.out.below hb)
       have G19 := Lib.hid hC
       have D19 := Lib.hid hc
       clear hC hc hb I18 q0)
    | (go_at_call 18
       with_reducible refine (implLoosenD ws HX.out sp gp A6 c6 m n _ G19.out D19.out HN3.out HFT.out rw rs rg rl code HLR.out).mono ?_
       rintro e w20 ⟨Bh, dh, rfl, hR, hb⟩
       have B20 := Lib.hid (below_step B19.out hb)
       have I20 := Lib.hid (I19.out.below hb)
       have G20 := (Kd.R_reads' hR).2.2
       have D20 := Lib.hid (Kd.R_reads' hR).2.1
       obtain ⟨x1, x2, x3⟩ := boxed w20 U rw rs rg (.slice Bh rl.length dh)
       have hstw21 := store_new w20 U rw HRX.out rs rg Bh rl.length dh
       obtain ⟨w21, hww21⟩ : ∃ w21, w21 = (w20.alloc (.cells ZF U)).setRow w20.heap.size (FV rw rs rg (.slice Bh rl.length dh)) := ⟨_, rfl⟩
       rw [← hww21] at hstw21 x1 x2 x3
       clear hww21
       have B21 := Lib.hid (below_step B20.out x1)
       have I21 := Lib.hid (I20.out.below x1)
       have C21 := Lib.hid x2
       have G21 := Lib.hid (Kd.C_below G20 x1)
       clear x1 x2 x3 hR hb G19 I19 I20 G20
       have q14 := loadF C21.out HRX.out HM.out
       have q10 := loadF I21.out.k6 HRX.out HM.out)
    | (go_at_call 12
       with_reducible refine (eqFaceC rw HRX.out rs rg Bh Bw dh dw rl _ G21.out D20.out (Kd.R_reads' I21.out.rw).2.2 (Kd.R_reads' I21.out.rw).2.1 HRL.out).mono ?_
       rintro e w22 ⟨rfl, hb⟩
       have B22 := Lib.hid (below_step B21.out hb)
       have I22 := Lib.hid (I21.out.below hb)
       clear hb I21 q14 q10
       have q9 := loadF I22.out.k9 HRX.out HM.out)
    | (go_at_call 20
       with_reducible refine (heldFaceR rw HRX.out rs rg Bg rl.length dg _ _ _ I22.out.rg HRL.out kg HKG.out).mono ?_
       rintro e w23 ⟨rfl, hb⟩
       have B23 := Lib.hid (below_step B22.out hb)
       clear hb))
  go_ret
  exact ⟨rfl, B23.out⟩

theorem lawLoosen (ws : List Int) (hx : ws.length = 26) (sp gp : Int) (A : Option Addr) (c : Nat) (l : List S44) (n : Int) (w : World) (hr : Kd.C k44 w A l.length l) (hc : l.length ≤ c) (hfit : Fit ws sp gp (l.map toPr)) :
    Calls Try.prog 6 #[.agg (FV ws sp gp (.slice A l.length c)), .int .i64 n] w fun e w' => e = .returned (.bool true) ∧ Below w.heap.size w w' := by
  have hl := Kd.C_max hr
  by_cases h1 : (l.length : Int) ≤ 1048576
  · exact lawLoosenC ws hx sp gp A c l n w hr hc hl h1 hfit
  · exact lawLoosenA ws hx sp gp A c l n w hr hc hl (by omega)
end Go.Proofs.Ytjaamcedgdhilaa.Q
