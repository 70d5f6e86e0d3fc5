/- The law on faces: its first test. -/
import Derived.Test.YtimkkjkgbbfgbaaGreatDoorQhandFfB
import Derived.Deep.CutRange
namespace Go.Proofs.YtimkkjkgbbfgbaaGreatDoor.Q
open Go.RowKit Go.Proofs.YtimkkjkgbbfgbaaGreatDoorW.PrintWords Go.Proofs.YtimkkjkgbbfgbaaGreatDoorW.PrintLast Go.Proofs.YtimkkjkgbbfgbaaGreatDoorW.PrintMore
open Go.Proofs.YtimkkjkgbbfgbaaGreatDoor.Pure
set_option linter.unusedVariables false
set_option linter.unusedSimpArgs false

set_option maxHeartbeats 16000000 in
set_option maxRecDepth 1000000 in
theorem seg12 {U : TypeId} {w : World} {A0 A1 : Option Addr} {c0_ c1_ : Nat} {gs hs : List Int} {af ap : Nat} {T : ByteArray} {ws : List Int} {sp gp : Int} {l : List S33} {Bf : Option Addr} {df : Nat} {pa pb pc : Int} {wl : List ByteArray} {As : Option Addr} {rv : List Int} {rs rg : Int} {rl : List S33} {code : Int} {ar aw ad : Nat} {Br Bw Bd Ai : Option Addr} {dr dw dd ci cs : Nat} {c2 c3 c4 c20 c21 c22 c23 c24 c25 c26 c27 c28 c29 c30 c31 c32 c33 c34 c35 c36 c37 c38 c39 c40 c41 c42 c43 c44 c45 c46 c47 c48 c49 c50 c51 c52 c53 c54 c55 c56 c57 c58 c59 c60 c61 c62 c63 c64 c65 c66 c67 c68 c69 c70 c71 c72 c73 c74 c75 c76 c77 c78 c79 c80 c81 c82 c83 c84 c85 c86 c87 c88 c89 c90 c91 c92 c93 c94 c95 c96 c97 c98 c99 c100 c101 c102 c103 c104 c105 c106 c107 c108 c109 c110 c111 c112 c113 c114 c115 c116 c117 c118 c119 c120 c121 c122 c123 c124 c125 c126 c127 c128 c129 c130 c131 c132 c133 c134 c135 c136 c137 c138 c139 c140 c141 c142 c143 c144 c145 c146 c147 c148 c149 c150 c151 c152 c153 c154 c155 c156 c157 c158 c159 c160 c161 c162 c163 c164 c165 c166 c167 c168 c169 c170 c171 c172 c173 c174 c175 c176 c177 c178 c179 c180 c181 c182 c183 c184 c185 c186 c187 c188 c189 c190 c191 c192 c193 c194 c195 c196 c197 c198 c199 c200 c201 c202 c203 c204 c205 c206 c207 c208 c209 c210 c211 c212 c213 c214 c215 c216 c217 c218 c219 c220 c221 c222 c223 c224 c225 c226 c227 c228 c229 c230 c231 c232 c233 c234 c235 c236 c237 c238 c239 c240 c241 c242 c243 c244 c245 c246 c247 c248 c249 c250 c251 c252 c253 c254 c255 c256 c257 c258 c259 c260 c261 c262 c263 c264 c265 c266 c267 c268 c269 c270 c271 c272 c273 c274 c275 c276 c277 c278 c279 c280 c281 c282 c283 c284 c285 c286 c287 c288 c289 c290 c291 c292 c293 c294 c295 c296 c297 c298 c299 c300 c301 c302 c303 c304 c305 c306 c307 c308 c309 c310 c311 c312 c313 c314 c315 c316 c317 c318 c319 c320 c321 c322 c323 c324 c325 c326 c327 c328 c329 c330 c331 c332 c333 c334 c335 c336 c337 c338 c339 c340 c341 c342 c343 c344 c345 c346 c347 c348 c349 c350 c351 c352 c353 c354 c355 c356 c357 c358 c359 c360 c361 c362 c363 c364 c365 c366 c367 c368 c369 c370 c371 c372 c373 c374 c375 c376 c377 c378 c379 c380 c381 c382 c383 c384 c385 c386 c387 c388 c389 c390 c391 c392 c393 c394 c395 c396 c397 c398 : Value} {W : World}
    {K : Act → World → Prop} {Q' : Exit → Act → World → Prop} (hU : U = 28) (HX : RowKit.Hid (ws.length = 26)) (HV : RowKit.Hid (validB ws sp gp l = true)) (HL : RowKit.Hid (l.length ≤ 12)) (HWL : RowKit.Hid (wl.length ≤ 6 ∧ ∀ x ∈ wl, saidB x)) (HT : RowKit.Hid (T = joinB wl blank)) (HG : RowKit.Hid (∀ W, Below w.heap.size w W → GlobFP W)) (HRV : RowKit.Hid (rv.length = 26)) (HRL : RowKit.Hid (rl.length ≤ 12)) (HIW : RowKit.Hid (wl.length ≤ ci)) (HLS : RowKit.Hid (wl.length ≤ cs))
    (B0 : RowKit.Hid (Below w.heap.size w W)) (F0 : RowKit.Hid (BX U af ws sp gp l Bf df W)) (P0 : RowKit.Hid (W.heap[ap]? = some (.cells #[.int .u8 pa, .int .u8 pb, .int .i8 pc] 33 (0, 0)))) (RD0 : RowKit.Hid (BX U ar ws sp gp l Br dr W)) (WT0 : RowKit.Hid (BX U aw rv rs rg rl Bw dw W)) (DU0 : RowKit.Hid (BX U ad rv rs rg rl Bd dd W)) (IW0 : RowKit.Hid (Kd.C Kd.string W Ai wl.length wl)) (LS0 : RowKit.Hid (Kd.C Kd.string W As wl.length wl))
    (rest : ∀ (u98 u99 u100 u101 u102 u103 u104 u105 u106 u107 u108 u109 u110 u111 u112 u113 u114 u115 u116 u117 u118 u119 u120 u121 u122 u123 u124 u125 u126 u127 u128 u129 u130 u131 u132 u133 u134 u135 u136 u137 u138 u139 u140 u141 u142 u143 u144 u145 u146 u147 u148 u149 u150 u151 u152 u153 u154 u155 u156 u157 u158 u159 u160 u161 u162 u163 u164 u165 u166 u167 u168 u169 u170 : Value) (W' : World), RowKit.Hid (LI w U af ws sp gp l Bf df ap pa pb pc wl As W') → RowKit.Hid (BX U ad rv rs rg rl Bd dd W') → K ⟨#[.slice A0 gs.length c0_, .slice A1 hs.length c1_, c2, c3, c4, PT af, .string T, PT ap, PT ar, .int .i64 0, PT aw, .int .i64 code, PT ad, .int .i64 code, .slice Ai wl.length ci, .int .i64 0, .slice As wl.length cs, .int .i64 0, .string T, .int .i64 0, c20, c21, c22, c23, c24, c25, c26, c27, c28, c29, c30, c31, c32, c33, c34, c35, c36, c37, c38, c39, c40, c41, c42, c43, c44, c45, c46, c47, c48, c49, c50, c51, c52, c53, c54, c55, c56, c57, c58, c59, c60, c61, c62, c63, c64, c65, c66, c67, c68, c69, c70, c71, c72, c73, c74, c75, c76, c77, c78, c79, c80, c81, c82, c83, c84, c85, c86, c87, c88, c89, c90, c91, c92, c93, c94, c95, c96, c97, u98, u99, u100, u101, u102, u103, u104, u105, u106, u107, u108, u109, u110, u111, u112, u113, u114, u115, u116, u117, u118, u119, u120, u121, u122, u123, u124, u125, u126, u127, u128, u129, u130, u131, u132, u133, u134, u135, u136, u137, u138, u139, u140, u141, u142, u143, u144, u145, u146, u147, u148, u149, u150, u151, u152, u153, u154, u155, u156, u157, u158, u159, u160, u161, u162, u163, u164, u165, u166, u167, u168, u169, u170, .bool false, c172, c173, c174, c175, c176, c177, c178, c179, c180, c181, c182, c183, c184, c185, c186, c187, c188, c189, c190, c191, c192, c193, c194, c195, c196, c197, c198, c199, c200, c201, c202, c203, c204, c205, c206, c207, c208, c209, c210, c211, c212, c213, c214, c215, c216, c217, c218, c219, c220, c221, c222, c223, c224, c225, c226, c227, c228, c229, c230, c231, c232, c233, c234, c235, c236, c237, c238, c239, c240, c241, c242, c243, c244, c245, c246, c247, c248, c249, c250, c251, c252, c253, c254, c255, c256, c257, c258, c259, c260, c261, c262, c263, c264, c265, c266, c267, c268, c269, c270, c271, c272, c273, c274, c275, c276, c277, c278, c279, c280, c281, c282, c283, c284, c285, c286, c287, c288, c289, c290, c291, c292, c293, c294, c295, c296, c297, c298, c299, c300, c301, c302, c303, c304, c305, c306, c307, c308, c309, c310, c311, c312, c313, c314, c315, c316, c317, c318, c319, c320, c321, c322, c323, c324, c325, c326, c327, c328, c329, c330, c331, c332, c333, c334, c335, c336, c337, c338, c339, c340, c341, c342, c343, c344, c345, c346, c347, c348, c349, c350, c351, c352, c353, c354, c355, c356, c357, c358, c359, c360, c361, c362, c363, c364, c365, c366, c367, c368, c369, c370, c371, c372, c373, c374, c375, c376, c377, c378, c379, c380, c381, c382, c383, c384, c385, c386, c387, c388, c389, c390, c391, c392, c393, c394, c395, c396, c397, c398], []⟩ W') :
    Code.wp Tryz.prog ((Tryz.f3.body.bind (regionIn 12)).getD .skip) (Exit.then K Q') ⟨#[.slice A0 gs.length c0_, .slice A1 hs.length c1_, c2, c3, c4, PT af, .string T, PT ap, PT ar, .int .i64 0, PT aw, .int .i64 code, PT ad, .int .i64 code, .slice Ai wl.length ci, .int .i64 0, .slice As wl.length cs, .int .i64 0, .string T, .int .i64 0, c20, c21, c22, c23, c24, c25, c26, c27, c28, c29, c30, c31, c32, c33, c34, c35, c36, c37, c38, c39, c40, c41, c42, c43, c44, c45, c46, c47, c48, c49, c50, c51, c52, c53, c54, c55, c56, c57, c58, c59, c60, c61, c62, c63, c64, c65, c66, c67, c68, c69, c70, c71, c72, c73, c74, c75, c76, c77, c78, c79, c80, c81, c82, c83, c84, c85, c86, c87, c88, c89, c90, c91, c92, c93, c94, c95, c96, c97, c98, c99, c100, c101, c102, c103, c104, c105, c106, c107, c108, c109, c110, c111, c112, c113, c114, c115, c116, c117, c118, c119, c120, c121, c122, c123, c124, c125, c126, c127, c128, c129, c130, c131, c132, c133, c134, c135, c136, c137, c138, c139, c140, c141, c142, c143, c144, c145, c146, c147, c148, c149, c150, c151, c152, c153, c154, c155, c156, c157, c158, c159, c160, c161, c162, c163, c164, c165, c166, c167, c168, c169, c170, c171, c172, c173, c174, c175, c176, c177, c178, c179, c180, c181, c182, c183, c184, c185, c186, c187, c188, c189, c190, c191, c192, c193, c194, c195, c196, c197, c198, c199, c200, c201, c202, c203, c204, c205, c206, c207, c208, c209, c210, c211, c212, c213, c214, c215, c216, c217, c218, c219, c220, c221, c222, c223, c224, c225, c226, c227, c228, c229, c230, c231, c232, c233, c234, c235, c236, c237, c238, c239, c240, c241, c242, c243, c244, c245, c246, c247, c248, c249, c250, c251, c252, c253, c254, c255, c256, c257, c258, c259, c260, c261, c262, c263, c264, c265, c266, c267, c268, c269, c270, c271, c272, c273, c274, c275, c276, c277, c278, c279, c280, c281, c282, c283, c284, c285, c286, c287, c288, c289, c290, c291, c292, c293, c294, c295, c296, c297, c298, c299, c300, c301, c302, c303, c304, c305, c306, c307, c308, c309, c310, c311, c312, c313, c314, c315, c316, c317, c318, c319, c320, c321, c322, c323, c324, c325, c326, c327, c328, c329, c330, c331, c332, c333, c334, c335, c336, c337, c338, c339, c340, c341, c342, c343, c344, c345, c346, c347, c348, c349, c350, c351, c352, c353, c354, c355, c356, c357, c358, c359, c360, c361, c362, c363, c364, c365, c366, c367, c368, c369, c370, c371, c372, c373, c374, c375, c376, c377, c378, c379, c380, c381, c382, c383, c384, c385, c386, c387, c388, c389, c390, c391, c392, c393, c394, c395, c396, c397, c398], []⟩ W := by
  conv => arg 2; whnf
  obtain ⟨M, hM⟩ : ∃ M : Nat, M = 29 := ⟨_, rfl⟩
  have huU := fun w => (show (underlying U).run Tryz.prog w = (underlying 28).run Tryz.prog w by rw [hU]).trans (run_underlying (P := Tryz.prog) (w := w) Tryz.underlying28)
  have hzU : ∀ w, (sizeOf U).run Tryz.prog w = .ok M w := fun w => by rw [hM, hU]; exact Tryz.sizeOf28 w
  have haU : ∀ w, (isAgg U).run Tryz.prog w = .ok true w := fun w => by rw [hU]; exact Tryz.isAgg28 w
  have hvU : ∀ w, (zeroValue U).run Tryz.prog w = .ok (.agg ZF) w := fun w => by rw [hU]; exact Tryz.zeroValue28 w
  have e2 : ∀ x, Op.load 28 x = Op.load U x := fun x => by rw [hU]
  have e3 : ∀ x y, Op.store 28 x y = Op.store U x y := fun x y => by rw [hU]
  have e4 : Op.alloc 28 = Op.alloc U := by rw [hU]
  have e5 : ∀ x, Op.build 28 x = Op.build U x := fun x => by rw [hU]
  simp only [e2, e3, e4, e5]
  clear e2 e3 e4 e5
  have hFz : ZF.size = M := by rw [hM]; rfl
  have hm1 : ¬ M < 27 := by omega
  have hm2 : ¬ M < 28 := by omega
  have HM := Lib.hid hM
  clear hM hU
  have hFr : ∀ v, (FV ws sp gp v).size = M := fun v => by rw [FV_size ws HX.out, HM.out]
  have hFr2 : ∀ v, (FV rv rs rg v).size = M := fun v => by rw [FV_size rv HRV.out, HM.out]
  go_cut [171] from 98 to 171 (fun s wx => s = .bool false ∧ RowKit.Hid (LI w U af ws sp gp l Bf df ap pa pb pc wl As wx) ∧ RowKit.Hid (BX U ad rv rs rg rl Bd dd wx))
  case first =>
    clear rest
    have tb1 : (sp != sp) = false := by simp
    have tz := said_empty wl HWL.out.2 T HT.out
    have q0_0 := (show _ = some (Value.int .i8 sp) from (blk_cell RD0.out.k 26).trans (FV_26 ws HX.out sp gp _))
    have q0_1 := (show _ = some (Value.int .i8 sp) from (blk_cell F0.out.k 26).trans (FV_26 ws HX.out sp gp _))
    have q0_2 := loadF RD0.out.k HX.out HM.out
    have q0_3 := loadF F0.out.k HX.out HM.out
    go_wp2_with (first
      | (go_at_call 15
         with_reducible refine (specSameD ws HX.out sp gp Br Bf dr df l HL.out _ RD0.out.c RD0.out.d F0.out.c F0.out.d).mono ?_
         rintro e w1 ⟨rfl, hb⟩
         have B1 := Lib.hid (below_step B0.out hb)
         have F1 := Lib.hid (F0.out.below hb)
         have P1 := Lib.hid (box_below P0.out hb)
         have RD1 := Lib.hid (RD0.out.below hb)
         have WT1 := Lib.hid (WT0.out.below hb)
         have DU1 := Lib.hid (DU0.out.below hb)
         have IW1 := Lib.hid (Kd.C_below IW0.out hb)
         have LS1 := Lib.hid (Kd.C_below LS0.out hb)
         clear hb B0 F0 P0 RD0 WT0 DU0 IW0 LS0 q0_0 q0_1 q0_2 q0_3
         have q1_0 := loadF RD1.out.k HX.out HM.out
         have q1_1 := loadF F1.out.k HX.out HM.out)
      | (go_at_call 16
         with_reducible refine (implSameD ws HX.out sp gp Br Bf dr df l HL.out _ RD1.out.c RD1.out.d F1.out.c F1.out.d).mono ?_
         rintro e w2 ⟨rfl, hb⟩
         have B2 := Lib.hid (below_step B1.out hb)
         have F2 := Lib.hid (F1.out.below hb)
         have P2 := Lib.hid (box_below P1.out hb)
         have RD2 := Lib.hid (RD1.out.below hb)
         have WT2 := Lib.hid (WT1.out.below hb)
         have DU2 := Lib.hid (DU1.out.below hb)
         have IW2 := Lib.hid (Kd.C_below IW1.out hb)
         have LS2 := Lib.hid (Kd.C_below LS1.out hb)
         clear hb B1 F1 P1 RD1 WT1 DU1 IW1 LS1 q1_0 q1_1
         have q2_0 := loadF F2.out.k HX.out HM.out)
      | (go_at_call 17
         with_reducible refine (validD ws HX.out sp gp Bf df l HV.out _ F2.out.c F2.out.d).mono ?_
         rintro e w3 ⟨rfl, hb⟩
         have B3 := Lib.hid (below_step B2.out hb)
         have F3 := Lib.hid (F2.out.below hb)
         have P3 := Lib.hid (box_below P2.out hb)
         have WT3 := Lib.hid (WT2.out.below hb)
         have DU3 := Lib.hid (DU2.out.below hb)
         have IW3 := Lib.hid (Kd.C_below IW2.out hb)
         have LS3 := Lib.hid (Kd.C_below LS2.out hb)
         clear hb B2 F2 P2 WT2 DU2 IW2 LS2 q2_0)
      | (go_at_call 18
         with_reducible refine (validTextD wl HWL.out.1 HWL.out.2 T HT.out _ (HG.out _ B3.out)).mono ?_
         rintro e w4 ⟨rfl, hb⟩
         have B4 := Lib.hid (below_step B3.out hb)
         have F4 := Lib.hid (F3.out.below hb)
         have P4 := Lib.hid (box_below P3.out hb)
         have WT4 := Lib.hid (WT3.out.below hb)
         have DU4 := Lib.hid (DU3.out.below hb)
         have IW4 := Lib.hid (Kd.C_below IW3.out hb)
         have LS4 := Lib.hid (Kd.C_below LS3.out hb)
         clear hb B3 F3 P3 WT3 DU3 IW3 LS3
         have q4_0 := loadF WT4.out.k HRV.out HM.out
         have q4_1 := loadF DU4.out.k HRV.out HM.out)
      | (go_at_call 15
         with_reducible refine (specSameD rv HRV.out rs rg Bw Bd dw dd rl HRL.out _ WT4.out.c WT4.out.d DU4.out.c DU4.out.d).mono ?_
         rintro e w5 ⟨rfl, hb⟩
         have B5 := Lib.hid (below_step B4.out hb)
         have F5 := Lib.hid (F4.out.below hb)
         have P5 := Lib.hid (box_below P4.out hb)
         have WT5 := Lib.hid (WT4.out.below hb)
         have DU5 := Lib.hid (DU4.out.below hb)
         have IW5 := Lib.hid (Kd.C_below IW4.out hb)
         have LS5 := Lib.hid (Kd.C_below LS4.out hb)
         clear hb B4 F4 P4 WT4 DU4 IW4 LS4 q4_0 q4_1)
      | (go_at_call 19
         with_reducible refine (sameTextsD wl HWL.out.1 Ai As ci cs _ IW5.out HIW.out LS5.out HLS.out).mono ?_
         rintro e w6 ⟨rfl, hb⟩
         have B6 := Lib.hid (below_step B5.out hb)
         have F6 := Lib.hid (F5.out.below hb)
         have P6 := Lib.hid (box_below P5.out hb)
         have DU6 := Lib.hid (DU5.out.below hb)
         have IW6 := Lib.hid (Kd.C_below IW5.out hb)
         have LS6 := Lib.hid (Kd.C_below LS5.out hb)
         clear hb B5 F5 P5 DU5 IW5 LS5))
    go_meet
    exact ⟨rfl, Lib.hid ⟨B6.out, F6.out, P6.out, LS6.out⟩, DU6⟩
  case rest =>
    obtain ⟨h1, h2, h3⟩ := hcut
    subst h1
    exact rest _ _ _ _ _ _ _ _ _ _ _ _ _ _ _ _ _ _ _ _ _ _ _ _ _ _ _ _ _ _ _ _ _ _ _ _ _ _ _ _ _ _ _ _ _ _ _ _ _ _ _ _ _ _ _ _ _ _ _ _ _ _ _ _ _ _ _ _ _ _ _ _ _ wc h2 h3
end Go.Proofs.YtimkkjkgbbfgbaaGreatDoor.Q
