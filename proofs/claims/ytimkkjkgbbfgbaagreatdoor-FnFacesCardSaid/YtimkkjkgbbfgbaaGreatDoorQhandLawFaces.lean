/- The law FnFaces holds, walked by hand: its segments joined. -/
import Derived.Test.YtimkkjkgbbfgbaaGreatDoorQhandFfC
import Derived.Test.YtimkkjkgbbfgbaaGreatDoorQhandFfP
import Derived.Test.YtimkkjkgbbfgbaaGreatDoorQhandFfL
import Derived.Test.YtimkkjkgbbfgbaaGreatDoorQhandFfN
namespace Go.Proofs.YtimkkjkgbbfgbaaGreatDoor.Q
open Go.RowKit Go.Proofs.YtimkkjkgbbfgbaaGreatDoorW.PrintWords Go.Proofs.YtimkkjkgbbfgbaaGreatDoorW.PrintLast Go.Proofs.YtimkkjkgbbfgbaaGreatDoorW.PrintMore
open Go.Proofs.YtimkkjkgbbfgbaaGreatDoor.Pure
set_option linter.unusedVariables false
set_option linter.unusedSimpArgs false

set_option maxHeartbeats 16000000 in
set_option maxRecDepth 1000000 in
theorem facesC (A0 A1 : Option Addr) (c0 c1 : Nat) (gs hs : List Int) (hg : bytesL gs) (hh : bytesL hs) (w : World) (hG : GlobFP w) (hr0 : Kd.C (Kd.int .u8) w A0 gs.length gs) (hc0 : gs.length ≤ c0) (hr1 : Kd.C (Kd.int .u8) w A1 hs.length hs) (hc1 : hs.length ≤ c1) (hlong : (decide ((gs.length : Int) > 3000) || decide ((hs.length : Int) > 3000)) = false) :
    Calls Tryz.prog 3 #[.slice A0 gs.length c0, .slice A1 hs.length c1] w fun e w' => e = .returned (.bool true) ∧ Below w.heap.size w w' := by
  have H := Lib.hid (longD A0 c0 gs A1 c1 hs false hlong w hr0 hc0 hr1 hc1)
  have HGS := Lib.hid hg
  have HHS := Lib.hid hh
  have HR0 := Lib.hid hr0
  have HR1 := Lib.hid hr1
  have HC0 := Lib.hid hc0
  have HC1 := Lib.hid hc1
  have HG := Lib.hid (fun W (hb : Below w.heap.size w W) => hG.step hb)
  clear hlong hr0 hr1 hc0 hc1 hg hh hG
  go_enter Tryz.func3, Tryz.ntmps3
  obtain ⟨M, hM⟩ : ∃ M : Nat, M = 29 := ⟨_, rfl⟩
  obtain ⟨U, hU⟩ : ∃ U : TypeId, U = 28 := ⟨_, rfl⟩
  have huU := fun w => (show (underlying U).run Tryz.prog w = (underlying 28).run Tryz.prog w by rw [hU]).trans (run_underlying (P := Tryz.prog) (w := w) Tryz.underlying28)
  have hzU : ∀ w, (sizeOf U).run Tryz.prog w = .ok M w := fun w => by rw [hM, hU]; exact Tryz.sizeOf28 w
  have haU : ∀ w, (isAgg U).run Tryz.prog w = .ok true w := fun w => by rw [hU]; exact Tryz.isAgg28 w
  have hvU : ∀ w, (zeroValue U).run Tryz.prog w = .ok (.agg ZF) w := fun w => by rw [hU]; exact Tryz.zeroValue28 w
  have e2 : ∀ x, Op.load 28 x = Op.load U x := fun x => by rw [hU]
  have e3 : ∀ x y, Op.store 28 x y = Op.store U x y := fun x y => by rw [hU]
  have e4 : Op.alloc 28 = Op.alloc U := by rw [hU]
  have e5 : ∀ x, Op.build 28 x = Op.build U x := fun x => by rw [hU]
  simp only [e2, e3, e4, e5]
  clear e2 e3 e4 e5
  have hFz : ZF.size = M := by rw [hM]; rfl
  have hm1 : ¬ M < 27 := by omega
  have hm2 : ¬ M < 28 := by omega
  have HM := Lib.hid hM
  have HU := Lib.hid hU
  clear hM hU
  go_upto_region 3 with (first
    | (go_at_call 4
       with_reducible refine H.out.mono ?_
       rintro e w1 ⟨rfl, hb⟩
       have B1 := Lib.hid hb
       clear hb))
  clear H
  go_upto_region 6 with (first
    | (go_at_call 5
       with_reducible refine (a2FaceC A0 c0 gs HGS.out _ (Kd.C_below HR0.out B1.out) HC0.out).mono ?_
       rintro e w2 ⟨ws, sp, gp, l, Bf, df, rfl, hx, hv, hc, hd, hb⟩
       have B2 := Lib.hid (below_step B1.out hb)
       have HX := Lib.hid hx
       have HV := Lib.hid hv
       have HL := Lib.hid (valid_facts hx hv).2.2.2.1
       have HCC := Lib.hid (And.intro hc hd)
       have hFr : ∀ v, (FV ws sp gp v).size = M := fun v => by rw [FV_size ws HX.out, HM.out]
       clear hb B1 hx hv hc hd
       obtain ⟨x1, x2, x3⟩ := boxed w2 U ws sp gp (.slice Bf l.length df)
       have hst2 := store_new w2 U ws HX.out sp gp Bf l.length df
       obtain ⟨w3, hww3⟩ : ∃ w3, w3 = (w2.alloc (.cells ZF U)).setRow w2.heap.size (FV ws sp gp (.slice Bf l.length df)) := ⟨_, rfl⟩
       rw [← hww3] at hst2 x1 x2 x3
       clear hww3
       have B3 := Lib.hid (below_step B2.out x1)
       have F3 := Lib.hid (show BX U w2.heap.size ws sp gp l Bf df w3 from ⟨x2, Kd.C_below HCC.out.1 x1, HCC.out.2⟩)
       clear x1 x2 x3 HCC B2)
    | (go_at_call 6
       with_reducible refine (textD A1 c1 hs HHS.out _ (Kd.C_below HR1.out B3.out) HC1.out).mono ?_
       rintro e w4 ⟨wl, rfl, hwl, hb⟩
       have B4 := Lib.hid (below_step B3.out hb)
       have F4 := Lib.hid (F3.out.below hb)
       have HWL := Lib.hid hwl
       obtain ⟨T, hT⟩ : ∃ T, T = joinB wl blank := ⟨_, rfl⟩
       rw [← hT]
       have HT := Lib.hid hT
       clear hb B3 F3 hwl hT)
    | (go_at_call 7
       with_reducible refine (atD A1 c1 hs HHS.out 0 5 (by decide) (by decide) _ (Kd.C_below HR1.out B4.out) HC1.out).mono ?_
       rintro e w5 ⟨x0, rfl, hx0, hb⟩
       have B5 := Lib.hid (below_step B4.out hb)
       have F5 := Lib.hid (F4.out.below hb)
       obtain ⟨pa, hpa⟩ : ∃ y, y = 65 + x0 := ⟨_, rfl⟩
       have v1 : wrap64 (65 + x0) = pa := by rw [hpa]; exact wrap_id (by omega) (by omega)
       have u1 : pa % 256 = pa := by omega
       have HPA := Lib.hid (show 65 ≤ pa ∧ pa ≤ 69 by omega)
       clear hb B4 F4 hx0 hpa)
    | (go_at_call 7
       with_reducible refine (atD A1 c1 hs HHS.out 1 5 (by decide) (by decide) _ (Kd.C_below HR1.out B5.out) HC1.out).mono ?_
       rintro e w6 ⟨x1, rfl, hx1, hb⟩
       have B6 := Lib.hid (below_step B5.out hb)
       have F6 := Lib.hid (F5.out.below hb)
       obtain ⟨pb, hpb⟩ : ∃ y, y = 65 + x1 := ⟨_, rfl⟩
       have v2 : wrap64 (65 + x1) = pb := by rw [hpb]; exact wrap_id (by omega) (by omega)
       have u2 : pb % 256 = pb := by omega
       have HPB := Lib.hid (show 65 ≤ pb ∧ pb ≤ 69 by omega)
       clear hb B5 F5 hx1 hpb)
    | (go_at_call 7
       with_reducible refine (atD A1 c1 hs HHS.out 2 9 (by decide) (by decide) _ (Kd.C_below HR1.out B6.out) HC1.out).mono ?_
       rintro e w7 ⟨x2, rfl, hx2, hb⟩
       have B7 := Lib.hid (below_step B6.out hb)
       have F7 := Lib.hid (F6.out.below hb)
       obtain ⟨pc, hpc⟩ : ∃ y, y = x2 - 4 := ⟨_, rfl⟩
       have v3 : wrap64 (x2 - 4) = pc := by rw [hpc]; exact wrap_id (by omega) (by omega)
       have u3 : IntKind.i8.wrap pc = pc := IntWalk.i8_in _ (by omega)
       have HPC := Lib.hid (show -4 ≤ pc ∧ pc ≤ 4 by omega)
       clear hb B6 F6 hx2 hpc))
  have x1 := below_alloc (Below.refl w7.heap.size w7) (.cells #[.int .u8 pa, .int .u8 pb, .int .i8 pc] 33)
  have x2 := heap_alloc_new w7 (.cells #[.int .u8 pa, .int .u8 pb, .int .i8 pc] 33)
  obtain ⟨w8, hw⟩ : ∃ W, W = w7.alloc (.cells #[.int .u8 pa, .int .u8 pb, .int .i8 pc] 33) := ⟨_, rfl⟩
  rw [← hw] at x1 x2 ⊢
  obtain ⟨ap, hap⟩ : ∃ a, a = w7.heap.size := ⟨_, rfl⟩
  rw [← hap] at x2 ⊢
  have B8 := Lib.hid (below_step B7.out x1)
  have F8 := Lib.hid (F7.out.below x1)
  have P8 := Lib.hid x2
  clear x1 x2 hw hap v1 v2 v3 u1 u2 u3 B7 F7
  obtain ⟨rv, rs, rg, rl, code, hwr⟩ : ∃ rv rs rg rl code, withR ws sp gp l ⟨pa, pb, pc⟩ = ((rv, rs, rg, rl), code) := ⟨_, _, _, _, _, rfl⟩
  have HWR := Lib.hid hwr
  have HRV := Lib.hid (withR_len HX.out hwr)
  have HRL := Lib.hid (withR_fit HX.out hwr)
  have hFr2 : ∀ v, (FV rv rs rg v).size = M := fun v => by rw [FV_size rv HRV.out, HM.out]
  clear hwr
  have q8_0 := loadF F8.out.k HX.out HM.out
  go_upto_region 12 with (first
    | (go_at_call 9
       with_reducible refine (faceTextD ws HX.out sp gp Bf df l HV.out _ (HG.out _ B8.out) F8.out.c F8.out.d).mono ?_
       rintro e w9 ⟨rfl, hb⟩
       have B9 := Lib.hid (below_step B8.out hb)
       have F9 := Lib.hid (F8.out.below hb)
       have P9 := Lib.hid (box_below P8.out hb)
       clear hb B8 F8 P8 q8_0)
    | (go_at_call 8
       with_reducible refine (readD ws HX.out sp gp l HV.out _ (HG.out _ B9.out)).mono ?_
       rintro e w10 ⟨Br, dr, rfl, hR, hb⟩
       have B10 := Lib.hid (below_step B9.out hb)
       have F10 := Lib.hid (F9.out.below hb)
       have P10 := Lib.hid (box_below P9.out hb)
       have HCC := Lib.hid (show Kd.C k33 w10 Br l.length l ∧ l.length ≤ dr from ⟨(Kd.R_reads' hR).2.2, (Kd.R_reads' hR).2.1⟩)
       clear hb B9 F9 P9 hR
       obtain ⟨x1, x2, x3⟩ := boxed w10 U ws sp gp (.slice Br l.length dr)
       have hst10 := store_new w10 U ws HX.out sp gp Br l.length dr
       obtain ⟨w11, hww11⟩ : ∃ w11, w11 = (w10.alloc (.cells ZF U)).setRow w10.heap.size (FV ws sp gp (.slice Br l.length dr)) := ⟨_, rfl⟩
       rw [← hww11] at hst10 x1 x2 x3
       clear hww11
       have B11 := Lib.hid (below_step B10.out x1)
       have F11 := Lib.hid (F10.out.below x1)
       have P11 := Lib.hid (box_below P10.out x1)
       have RD11 := Lib.hid (show BX U w10.heap.size ws sp gp l Br dr w11 from ⟨x2, Kd.C_below HCC.out.1 x1, HCC.out.2⟩)
       clear x1 x2 x3 HCC B10 F10 P10
       have q11_0 := loadF F11.out.k HX.out HM.out
       have q11_1 := (show _ = some (Value.int .u8 pa) from (blk_cell P11.out 0).trans rfl)
       have q11_2 := (show _ = some (Value.int .u8 pb) from (blk_cell P11.out 1).trans rfl)
       have q11_3 := (show _ = some (Value.int .i8 pc) from (blk_cell P11.out 2).trans rfl))
    | (go_at_call 10
       with_reducible refine (implWithD ws HX.out sp gp Bf df l HV.out pa pb pc HPC.out _ F11.out.c F11.out.d rv rs rg rl code HWR.out).mono ?_
       rintro e w12 ⟨Bw, dw, rfl, hR, hb⟩
       have B12 := Lib.hid (below_step B11.out hb)
       have F12 := Lib.hid (F11.out.below hb)
       have P12 := Lib.hid (box_below P11.out hb)
       have RD12 := Lib.hid (RD11.out.below hb)
       have HCC := Lib.hid (show Kd.C k33 w12 Bw rl.length rl ∧ rl.length ≤ dw from ⟨(Kd.R_reads' hR).2.2, (Kd.R_reads' hR).2.1⟩)
       clear hb B11 F11 P11 RD11 q11_0 q11_1 q11_2 q11_3 hR
       obtain ⟨x1, x2, x3⟩ := boxed w12 U rv rs rg (.slice Bw rl.length dw)
       have hst12 := store_new w12 U rv HRV.out rs rg Bw rl.length dw
       obtain ⟨w13, hww13⟩ : ∃ w13, w13 = (w12.alloc (.cells ZF U)).setRow w12.heap.size (FV rv rs rg (.slice Bw rl.length dw)) := ⟨_, rfl⟩
       rw [← hww13] at hst12 x1 x2 x3
       clear hww13
       have B13 := Lib.hid (below_step B12.out x1)
       have F13 := Lib.hid (F12.out.below x1)
       have P13 := Lib.hid (box_below P12.out x1)
       have RD13 := Lib.hid (RD12.out.below x1)
       have WT13 := Lib.hid (show BX U w12.heap.size rv rs rg rl Bw dw w13 from ⟨x2, Kd.C_below HCC.out.1 x1, HCC.out.2⟩)
       clear x1 x2 x3 HCC B12 F12 P12 RD12
       have q13_0 := loadF F13.out.k HX.out HM.out
       have q13_1 := (show _ = some (Value.int .u8 pa) from (blk_cell P13.out 0).trans rfl)
       have q13_2 := (show _ = some (Value.int .u8 pb) from (blk_cell P13.out 1).trans rfl)
       have q13_3 := (show _ = some (Value.int .i8 pc) from (blk_cell P13.out 2).trans rfl))
    | (go_at_call 11
       with_reducible refine (specWithE ws HX.out sp gp Bf df l HV.out pa pb pc HPC.out _ F13.out.c F13.out.d rv rs rg rl code HWR.out).mono ?_
       rintro e w14 ⟨Bd, dd, rfl, hR, hb⟩
       have B14 := Lib.hid (below_step B13.out hb)
       have F14 := Lib.hid (F13.out.below hb)
       have P14 := Lib.hid (box_below P13.out hb)
       have RD14 := Lib.hid (RD13.out.below hb)
       have WT14 := Lib.hid (WT13.out.below hb)
       have HCC := Lib.hid (show Kd.C k33 w14 Bd rl.length rl ∧ rl.length ≤ dd from ⟨(Kd.R_reads' hR).2.2, (Kd.R_reads' hR).2.1⟩)
       clear hb B13 F13 P13 RD13 WT13 q13_0 q13_1 q13_2 q13_3 hR
       obtain ⟨x1, x2, x3⟩ := boxed w14 U rv rs rg (.slice Bd rl.length dd)
       have hst14 := store_new w14 U rv HRV.out rs rg Bd rl.length dd
       obtain ⟨w15, hww15⟩ : ∃ w15, w15 = (w14.alloc (.cells ZF U)).setRow w14.heap.size (FV rv rs rg (.slice Bd rl.length dd)) := ⟨_, rfl⟩
       rw [← hww15] at hst14 x1 x2 x3
       clear hww15
       have B15 := Lib.hid (below_step B14.out x1)
       have F15 := Lib.hid (F14.out.below x1)
       have P15 := Lib.hid (box_below P14.out x1)
       have RD15 := Lib.hid (RD14.out.below x1)
       have WT15 := Lib.hid (WT14.out.below x1)
       have DU15 := Lib.hid (show BX U w14.heap.size rv rs rg rl Bd dd w15 from ⟨x2, Kd.C_below HCC.out.1 x1, HCC.out.2⟩)
       clear x1 x2 x3 HCC B14 F14 P14 RD14 WT14)
    | (go_at_call 12
       with_reducible refine (implWordsD wl HWL.out.1 HWL.out.2 T HT.out _ (HG.out _ B15.out)).mono ?_
       rintro e w16 ⟨Ai, ci, rfl, hC, hb⟩
       have B16 := Lib.hid (below_step B15.out hb)
       have F16 := Lib.hid (F15.out.below hb)
       have P16 := Lib.hid (box_below P15.out hb)
       have RD16 := Lib.hid (RD15.out.below hb)
       have WT16 := Lib.hid (WT15.out.below hb)
       have DU16 := Lib.hid (DU15.out.below hb)
       have IW16 := Lib.hid hC.1
       have HIW := Lib.hid hC.2
       clear hb B15 F15 P15 RD15 WT15 DU15 hC)
    | (go_at_call 13
       with_reducible refine (specWordsD wl HWL.out.1 HWL.out.2 T HT.out _).mono ?_
       rintro e w17 ⟨As, cs, rfl, hC, hb⟩
       have B17 := Lib.hid (below_step B16.out hb)
       have F17 := Lib.hid (F16.out.below hb)
       have P17 := Lib.hid (box_below P16.out hb)
       have RD17 := Lib.hid (RD16.out.below hb)
       have WT17 := Lib.hid (WT16.out.below hb)
       have DU17 := Lib.hid (DU16.out.below hb)
       have IW17 := Lib.hid (Kd.C_below IW16.out hb)
       have LS17 := Lib.hid hC.1
       have HLS := Lib.hid hC.2
       clear hb B16 F16 P16 RD16 WT16 DU16 IW16 hC)
    | (go_at_call 14
       with_reducible refine (joinD wl HWL.out.1 HWL.out.2 T HT.out As cs _ (HG.out _ B17.out) LS17.out HLS.out).mono ?_
       rintro e w18 ⟨rfl, hb⟩
       have B18 := Lib.hid (below_step B17.out hb)
       have F18 := Lib.hid (F17.out.below hb)
       have P18 := Lib.hid (box_below P17.out hb)
       have RD18 := Lib.hid (RD17.out.below hb)
       have WT18 := Lib.hid (WT17.out.below hb)
       have DU18 := Lib.hid (DU17.out.below hb)
       have IW18 := Lib.hid (Kd.C_below IW17.out hb)
       have LS18 := Lib.hid (Kd.C_below LS17.out hb)
       clear hb B17 F17 P17 RD17 WT17 DU17 IW17 LS17))
  clear hst2 hst10 hst12 hst14
  have hU := HU.out
  subst hU
  clear HU huU hzU haU hvU hFz hm1 hm2 hFr hFr2
  refine seg12 rfl HX HV HL HWL HT HG HRV HRL HIW HLS B18 F18 P18 RD18 WT18 DU18 IW18 LS18 (fun _ _ _ _ _ _ _ _ _ _ _ _ _ _ _ _ _ _ _ _ _ _ _ _ _ _ _ _ _ _ _ _ _ _ _ _ _ _ _ _ _ _ _ _ _ _ _ _ _ _ _ _ _ _ _ _ _ _ _ _ _ _ _ _ _ _ _ _ _ _ _ _ _ W1 I0 DUa => ?_)
  clear B18 F18 P18 RD18 WT18 DU18 IW18 LS18
  go_upto_if 173 with (fail)
  refine segPair rfl HX HV HL HWR HRV HPA HPB HPC I0 DUa (fun _ _ _ _ _ _ _ _ _ _ _ _ _ _ _ _ _ _ _ _ _ _ _ _ _ _ _ _ _ _ _ _ _ _ _ _ _ _ _ _ _ _ _ _ _ _ _ _ _ _ _ _ _ _ _ _ _ _ _ _ _ _ _ _ _ _ _ _ _ _ _ _ _ _ _ _ _ _ _ _ _ _ _ _ _ _ _ _ _ _ _ _ _ _ _ _ _ _ _ _ _ _ _ _ _ _ _ _ _ _ _ _ _ _ _ W2 I2 => ?_)
  clear I0 DUa HWR HRV HRL
  go_step
  refine segLoosen rfl HX HV HL HHS HR1 HC1 I2 (fun _ _ _ _ _ _ _ _ _ _ _ _ _ _ _ _ _ _ _ _ _ _ _ _ _ _ _ _ _ _ _ _ _ _ _ _ _ _ _ _ _ _ _ _ _ _ _ _ _ _ _ _ _ _ _ _ _ _ _ _ _ _ _ _ _ _ _ _ _ _ _ _ _ _ _ W3 I3 => ?_)
  exact segCounts HWL HT HG (Lib.hid I3.out.b) (Lib.hid I3.out.s)
end Go.Proofs.YtimkkjkgbbfgbaaGreatDoor.Q
