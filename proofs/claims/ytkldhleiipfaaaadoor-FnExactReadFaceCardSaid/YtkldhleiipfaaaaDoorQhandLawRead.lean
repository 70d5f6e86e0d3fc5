/- The law ReadFace holds, walked by hand. -/
import Derived.Test.YtkldhleiipfaaaaDoorQhandRFSpec
import Derived.Test.YtkldhleiipfaaaaDoorQhandRFImpl2
import Derived.Test.YtkldhleiipfaaaaDoorQMk
namespace Go.Proofs.YtkldhleiipfaaaaDoor.Q
open Go.RowKit Go.Proofs.YtkldhleiipfaaaaDoorW.PrintWords Go.Proofs.YtkldhleiipfaaaaDoorW.PrintLast Go.Proofs.YtkldhleiipfaaaaDoorW.PrintMore
open Go.Proofs.YtkldhleiipfaaaaDoor.Pure
set_option linter.unusedVariables false
set_option linter.unusedSimpArgs false

theorem specReadD (t : ByteArray) (ht : t.size ≤ 1048576) (w : World) (rv : List Int) (rs rg : Int) (rl : List S48) (code : Int) (h : readR t = ((rv, rs, rg, rl), code)) :
    Calls Tryd.prog 10 #[.string t] w fun e w' => ∃ B d, e = .returned (.tuple #[.agg (FV rv rs rg (.slice B rl.length d)), .int .i64 code]) ∧ Kd.R k48 48 w' w.heap.size (fun _ => True) (.slice B rl.length d) rl ∧ Below w.heap.size w w'  := specReadC t ht w (rv, rs, rg, rl) code h
theorem implReadD (t : ByteArray) (ht : t.size ≤ 1048576) (w : World) (hG : GlobFP w) (rv : List Int) (rs rg : Int) (rl : List S48) (code : Int) (h : readR t = ((rv, rs, rg, rl), code)) :
    Calls Tryd.prog 11 #[.string t] w fun e w' => ∃ B d, e = .returned (.tuple #[.agg (FV rv rs rg (.slice B rl.length d)), .int .i64 code]) ∧ Kd.R k48 48 w' w.heap.size (fun _ => True) (.slice B rl.length d) rl ∧ Below w.heap.size w w'  := implReadC t ht w hG (rv, rs, rg, rl) code h
theorem readR_fit {t : ByteArray} {rv : List Int} {rs rg : Int} {rl : List S48} {code : Int} (h : readR t = ((rv, rs, rg, rl), code)) : rv.length = 26 ∧ rl.length ≤ 1048576 := by
  unfold readR at h
  split at h
  · rename_i f hf
    obtain ⟨rfl, rfl⟩ := Prod.mk.inj h
    obtain ⟨h1, h2, _⟩ := specRF_back hf
    unfold validB at h2
    simp only [Bool.and_eq_true, decide_eq_true_eq] at h2
    exact ⟨h1, by omega⟩
  · unfold noFaceV at h
    obtain ⟨h1, _⟩ := Prod.mk.inj h
    obtain ⟨rfl, h2⟩ := Prod.mk.inj h1
    obtain ⟨_, h3⟩ := Prod.mk.inj h2
    obtain ⟨_, rfl⟩ := Prod.mk.inj h3
    exact ⟨rfl, Nat.zero_le _⟩
theorem markFaceR (ws : List Int) (hx : ws.length = 26) (sp gp : Int) (P0 : Nat → Prop) (A : Option Addr) (c : Nat) (l : List S48) (w0 w : World) (hB : Below w0.heap.size w0 w) (ho : Kd.R k48 48 w w0.heap.size P0 (.slice A l.length c) l) (hl : l.length ≤ 1048576) (k : Int) (hk : ((3 * l.length + 1 : Nat) : Int) = k) :
    Calls Tryd.prog 12 #[.agg (FV ws sp gp (.slice A l.length c)), .int .i64 1] w fun e w' => e = .returned (.int .i64 k) ∧ Kd.R k48 48 w' w0.heap.size P0 (.slice A l.length c) (marksP l.length) ∧ Below w0.heap.size w0 w' ∧ Kept w w' P0 := by
  subst hk
  exact markFaceC ws hx sp gp P0 A l.length c l w0 w hB ho hl
theorem heldFaceR (ws : List Int) (hx : ws.length = 26) (sp gp : Int) (A : Option Addr) (n c : Nat) (base : Nat) (ok : Nat → Prop) (w : World) (hr : Kd.R k48 48 w base ok (.slice A n c) (marksP n)) (hn : n ≤ 1048576) (k : Int) (hk : ((3 * n + 1 : Nat) : Int) = k) :
    Calls Tryd.prog 13 #[.agg (FV ws sp gp (.slice A n c)), .int .i64 1] w fun e w' => e = .returned (.int .i64 k) ∧ Below w.heap.size w w' := by
  subst hk
  have h := Kd.R_reads' hr
  rw [marksP_len] at h
  exact heldFaceC ws hx sp gp A n n c w h.2.2 h.2.1 hn
/-- What the law keeps: two faces in blocks of their own, their rows in two stretches of memory. -/
structure Two (F G : Array Value) (U : TypeId) (a b base : Nat) (V1 V2 : Value) (l1 l2 : List S48) (W : World) : Prop where
  k1 : W.heap[a]? = some (.cells F U (0, 0))
  k2 : W.heap[b]? = some (.cells G U (0, 0))
  r1 : Kd.R k48 48 W base (fun k => k < a) V1 l1
  r2 : Kd.R k48 48 W base (fun k => a < k ∧ k < b) V2 l2
section
variable {F G : Array Value} {U : TypeId} {a b base : Nat} {V1 V2 : Value} {l1 l2 : List S48} {W W' : World}
theorem Two.below (h : Two F G U a b base V1 V2 l1 l2 W) (hb : Below W.heap.size W W') : Two F G U a b base V1 V2 l1 l2 W' :=
  ⟨(hb.block _ (blk_lt h.k1)).trans h.k1, (hb.block _ (blk_lt h.k2)).trans h.k2, Kd.R_below h.r1 hb, Kd.R_below h.r2 hb⟩
theorem Two.mark (h : Two F G U a b base V1 V2 l1 l2 W) {l2' : List S48} (hk : Kept W W' (fun k => a < k ∧ k < b)) (hg : Kd.R k48 48 W' base (fun k => a < k ∧ k < b) V2 l2') : Two F G U a b base V1 V2 l1 l2' W' :=
  ⟨(hk.2 _ (blk_lt h.k1) (by omega)).trans h.k1, (hk.2 _ (blk_lt h.k2) (by omega)).trans h.k2, Kd.R_step h.r1 (fun k ho hlt => hk.2 k hlt (by omega)), hg⟩
end
set_option maxHeartbeats 4000000 in
theorem lawReadA (t : ByteArray) (w : World) (hbig : 1048576 < t.size) : Calls Tryd.prog 4 #[.string t] w fun e w' => e = .returned (.bool true) ∧ Below w.heap.size w w' := by
  have h5 : (1048576 : Int) < (t.size : Int) := by omega
  have h6 : decide ((t.size : Int) > 1048576) = true := decide_eq_true h5
  clear hbig
  go_enter Tryd.func4, Tryd.ntmps4
  go_wp2
  go_ret
  exact ⟨rfl, Below.refl _ _⟩
set_option maxHeartbeats 8000000 in
set_option maxRecDepth 100000 in
theorem lawReadC (t : ByteArray) (w : World) (hG : GlobFP w) (ht : t.size ≤ 1048576) : Calls Tryd.prog 4 #[.string t] w fun e w' => e = .returned (.bool true) ∧ Below w.heap.size w w' := by
  have h5 : ¬ (1048576 : Int) < (t.size : Int) := by omega
  have h6 : decide ((t.size : Int) > 1048576) = false := decide_eq_false h5
  obtain ⟨rv, rs, rg, rl, code, hb⟩ : ∃ rv rs rg rl code, readR t = ((rv, rs, rg, rl), code) := ⟨_, _, _, _, _, rfl⟩
  have HLR := Lib.hid hb
  have HRX := Lib.hid (readR_fit hb).1
  have HRL := Lib.hid (readR_fit hb).2
  have HT := Lib.hid ht
  have HG := Lib.hid (fun W (hb : Below w.heap.size w W) => hG.step hb)
  clear hb ht hG
  have tb : (code != code) = false := by simp
  obtain ⟨kg, hkg⟩ : ∃ kg : Int, ((3 * rl.length + 1 : Nat) : Int) = kg := ⟨_, rfl⟩
  have tg : ¬ kg < 0 := by omega
  have tk : (kg != kg) = false := by simp
  have HKG := Lib.hid hkg
  clear hkg
  go_enter Tryd.func4, Tryd.ntmps4
  obtain ⟨M, hM⟩ : ∃ M : Nat, M = 29 := ⟨_, rfl⟩
  obtain ⟨U, hU⟩ : ∃ U : TypeId, U = 31 := ⟨_, rfl⟩
  have huU := fun w => (show (underlying U).run Tryd.prog w = (underlying 31).run Tryd.prog w by rw [hU]).trans (run_underlying (P := Tryd.prog) (w := w) Tryd.underlying31)
  have hzU : ∀ w, (sizeOf U).run Tryd.prog w = .ok M w := fun w => by rw [hM, hU]; exact Tryd.sizeOf31 w
  have haU : ∀ w, (isAgg U).run Tryd.prog w = .ok true w := fun w => by rw [hU]; exact Tryd.isAgg31 w
  have hvU : ∀ w, (zeroValue U).run Tryd.prog w = .ok (.agg ZF) w := fun w => by rw [hU]; exact Tryd.zeroValue31 w
  have e2 : ∀ x, Op.load 31 x = Op.load U x := fun x => by rw [hU]
  have e3 : ∀ x y, Op.store 31 x y = Op.store U x y := fun x y => by rw [hU]
  have e4 : Op.alloc 31 = Op.alloc U := by rw [hU]
  have e5 : ∀ x, Op.build 31 x = Op.build U x := fun x => by rw [hU]
  simp only [e2, e3, e4, e5]
  clear e2 e3 e4 e5
  have hFz : ZF.size = M := by rw [hM]; rfl
  have HM := Lib.hid hM
  have hFr : ∀ v, (FV rv rs rg v).size = M := fun v => by rw [FV_size rv HRX.out, hM]
  clear hM hU
  go_wp2_with (first
    | (go_at_call 10
       with_reducible refine (specReadD t HT.out _ rv rs rg rl code HLR.out).mono ?_
       rintro e w3 ⟨Bw, dw, rfl, hR, hb⟩
       have B3 := Lib.hid hb
       have R3 := Lib.hid (Kd.R_mono (Kd.R_bound hR) (fun k hk => show k < w3.heap.size from hk.2.2.1))
       obtain ⟨x1, x2, x3⟩ := boxed w3 U rv rs rg (.slice Bw rl.length dw)
       have hstw4 := store_new w3 U rv HRX.out rs rg Bw rl.length dw
       obtain ⟨w4, hww4⟩ : ∃ w4, w4 = (w3.alloc (.cells ZF U)).setRow w3.heap.size (FV rv rs rg (.slice Bw rl.length dw)) := ⟨_, rfl⟩
       rw [← hww4] at hstw4 x1 x2 x3
       clear hww4
       have B4 := Lib.hid (below_step B3.out x1)
       have S4 := Lib.hid x3
       have C4 := Lib.hid x2
       have R4 := Lib.hid (Kd.R_below R3.out x1)
       clear x1 x2 x3 hR hb R3)
    | (go_at_call 11
       with_reducible refine (implReadD t HT.out _ (HG.out _ B4.out) rv rs rg rl code HLR.out).mono ?_
       rintro e w7 ⟨Bg, dg, rfl, hR, hb⟩
       have B7 := Lib.hid (below_step B4.out hb)
       have Y7 := Lib.hid (Kd.R_lower (Kd.R_mono (Kd.R_bound hR) (fun k hk => show w3.heap.size < k ∧ k < w7.heap.size from ⟨by have h1 := hk.2.1; have h2 := S4.out; omega, hk.2.2.1⟩)) (show w.heap.size ≤ w4.heap.size from B4.out.size))
       have C7 := Lib.hid ((hb.block _ (blk_lt C4.out)).trans C4.out)
       have R7 := Lib.hid (Kd.R_below R4.out hb)
       obtain ⟨x1, x2, x3⟩ := boxed w7 U rv rs rg (.slice Bg rl.length dg)
       have hstw8 := store_new w7 U rv HRX.out rs rg Bg rl.length dg
       obtain ⟨w8, hww8⟩ : ∃ w8, w8 = (w7.alloc (.cells ZF U)).setRow w7.heap.size (FV rv rs rg (.slice Bg rl.length dg)) := ⟨_, rfl⟩
       rw [← hww8] at hstw8 x1 x2 x3
       clear hww8
       have B8 := Lib.hid (below_step B7.out x1)
       have I8 := Lib.hid (show Two (FV rv rs rg (.slice Bw rl.length dw)) (FV rv rs rg (.slice Bg rl.length dg)) U w3.heap.size w7.heap.size w.heap.size (.slice Bw rl.length dw) (.slice Bg rl.length dg) rl rl w8 from ⟨(x1.block _ (blk_lt C7.out)).trans C7.out, x2, Kd.R_below R7.out x1, Kd.R_below Y7.out x1⟩)
       clear x1 x2 x3 hR hb R4 C4 hstw4 Y7 C7 R7
       have q9 := loadF I8.out.k2 HRX.out HM.out
       have q6 := loadF I8.out.k1 HRX.out HM.out)
    | (go_at_call 9
       with_reducible refine (eqFaceC rv HRX.out rs rg Bg Bw dg dw rl _ (Kd.R_reads' I8.out.r2).2.2 (Kd.R_reads' I8.out.r2).2.1 (Kd.R_reads' I8.out.r1).2.2 (Kd.R_reads' I8.out.r1).2.1 HRL.out).mono ?_
       rintro e w9 ⟨rfl, hb⟩
       have B9 := Lib.hid (below_step B8.out hb)
       have I9 := Lib.hid (I8.out.below hb)
       clear hb I8 q9 q6 hstw8
       have q9 := loadF I9.out.k2 HRX.out HM.out)
    | (go_at_call 12
       with_reducible refine (markFaceR rv HRX.out rs rg (fun k => w3.heap.size < k ∧ k < w7.heap.size) Bg dg rl w _ B9.out I9.out.r2 HRL.out kg HKG.out).mono ?_
       rintro e w10 ⟨rfl, hR, hb, hk⟩
       have B10 := Lib.hid hb
       have I10 := Lib.hid (I9.out.mark hk hR)
       clear hR hb hk q9 I9
       have q9 := loadF I10.out.k2 HRX.out HM.out)
    | (go_at_call 13
       with_reducible refine (heldFaceR rv HRX.out rs rg Bg rl.length dg _ _ _ I10.out.r2 HRL.out kg HKG.out).mono ?_
       rintro e w11 ⟨rfl, hb⟩
       have B11 := Lib.hid (below_step B10.out hb)
       have I11 := Lib.hid (I10.out.below hb)
       clear hb I10 q9)
    | (go_at_call 11
       with_reducible refine (implReadD t HT.out _ (HG.out _ B11.out) rv rs rg rl code HLR.out).mono ?_
       rintro e w12 ⟨Bh, dh, rfl, hR, hb⟩
       have B12 := Lib.hid (below_step B11.out hb)
       have I12 := Lib.hid (I11.out.below hb)
       have G12 := (Kd.R_reads' hR).2.2
       have D12 := Lib.hid (Kd.R_reads' hR).2.1
       obtain ⟨x1, x2, x3⟩ := boxed w12 U rv rs rg (.slice Bh rl.length dh)
       have hstw13 := store_new w12 U rv HRX.out rs rg Bh rl.length dh
       obtain ⟨w13, hww13⟩ : ∃ w13, w13 = (w12.alloc (.cells ZF U)).setRow w12.heap.size (FV rv rs rg (.slice Bh rl.length dh)) := ⟨_, rfl⟩
       rw [← hww13] at hstw13 x1 x2 x3
       clear hww13
       have B13 := Lib.hid (below_step B12.out x1)
       have I13 := Lib.hid (I12.out.below x1)
       have C13 := Lib.hid x2
       have G13 := Lib.hid (Kd.C_below G12 x1)
       clear x1 x2 x3 hR hb G12 I11 I12
       have q14 := loadF C13.out HRX.out HM.out
       have q10 := loadF I13.out.k1 HRX.out HM.out)
    | (go_at_call 9
       with_reducible refine (eqFaceC rv HRX.out rs rg Bh Bw dh dw rl _ G13.out D12.out (Kd.R_reads' I13.out.r1).2.2 (Kd.R_reads' I13.out.r1).2.1 HRL.out).mono ?_
       rintro e w14 ⟨rfl, hb⟩
       have B14 := Lib.hid (below_step B13.out hb)
       have I14 := Lib.hid (I13.out.below hb)
       clear hb I13 q14 q10
       have q9 := loadF I14.out.k2 HRX.out HM.out)
    | (go_at_call 13
       with_reducible refine (heldFaceR rv HRX.out rs rg Bg rl.length dg _ _ _ I14.out.r2 HRL.out kg HKG.out).mono ?_
       rintro e w15 ⟨rfl, hb⟩
       have B15 := Lib.hid (below_step B14.out hb)
       clear hb))
  go_ret
  exact ⟨rfl, B15.out⟩
theorem lawRead (t : ByteArray) (w : World) (hG : GlobFP w) : Calls Tryd.prog 4 #[.string t] w fun e w' => e = .returned (.bool true) ∧ Below w.heap.size w w' := by
  by_cases h1 : t.size ≤ 1048576
  · exact lawReadC t w hG h1
  · exact lawReadA t w (by omega)
end Go.Proofs.YtkldhleiipfaaaaDoor.Q
