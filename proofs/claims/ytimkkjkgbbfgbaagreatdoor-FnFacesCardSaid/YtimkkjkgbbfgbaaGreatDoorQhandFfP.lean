/- The law on faces: the pair that is put. -/
import Derived.Test.YtimkkjkgbbfgbaaGreatDoorQhandFfB
import Derived.Deep.CutRange
namespace Go.Proofs.YtimkkjkgbbfgbaaGreatDoor.Q
open Go.RowKit Go.Proofs.YtimkkjkgbbfgbaaGreatDoorW.PrintWords Go.Proofs.YtimkkjkgbbfgbaaGreatDoorW.PrintLast Go.Proofs.YtimkkjkgbbfgbaaGreatDoorW.PrintMore
open Go.Proofs.YtimkkjkgbbfgbaaGreatDoor.Pure
set_option linter.unusedVariables false
set_option linter.unusedSimpArgs false

set_option maxHeartbeats 16000000 in
set_option maxRecDepth 1000000 in
theorem segPair {U : TypeId} {w : World} {A0 A1 : Option Addr} {c0_ c1_ : Nat} {gs hs : List Int} {af ap : Nat} {T : ByteArray} {ws : List Int} {sp gp : Int} {l : List S33} {Bf : Option Addr} {df : Nat} {pa pb pc : Int} {wl : List ByteArray} {As : Option Addr} {rv : List Int} {rs rg : Int} {rl : List S33} {code : Int} {ad : Nat} {Bd : Option Addr} {dd : Nat} {c2 c3 c4 c8 c9 c10 c13 c14 c15 c16 c17 c18 c19 c20 c21 c22 c23 c24 c25 c26 c27 c28 c29 c30 c31 c32 c33 c34 c35 c36 c37 c38 c39 c40 c41 c42 c43 c44 c45 c46 c47 c48 c49 c50 c51 c52 c53 c54 c55 c56 c57 c58 c59 c60 c61 c62 c63 c64 c65 c66 c67 c68 c69 c70 c71 c72 c73 c74 c75 c76 c77 c78 c79 c80 c81 c82 c83 c84 c85 c86 c87 c88 c89 c90 c91 c92 c93 c94 c95 c96 c97 c98 c99 c100 c101 c102 c103 c104 c105 c106 c107 c108 c109 c110 c111 c112 c113 c114 c115 c116 c117 c118 c119 c120 c121 c122 c123 c124 c125 c126 c127 c128 c129 c130 c131 c132 c133 c134 c135 c136 c137 c138 c139 c140 c141 c142 c143 c144 c145 c146 c147 c148 c149 c150 c151 c152 c153 c154 c155 c156 c157 c158 c159 c160 c161 c162 c163 c164 c165 c166 c167 c168 c169 c170 c171 c172 c174 c175 c176 c177 c178 c179 c180 c181 c182 c183 c184 c185 c186 c187 c188 c189 c190 c191 c192 c193 c194 c195 c196 c197 c198 c199 c200 c201 c202 c203 c204 c205 c206 c207 c208 c209 c210 c211 c212 c213 c214 c215 c216 c217 c218 c219 c220 c221 c222 c223 c224 c225 c226 c227 c228 c229 c230 c231 c232 c233 c234 c235 c236 c237 c238 c239 c240 c241 c242 c243 c244 c245 c246 c247 c248 c249 c250 c251 c252 c253 c254 c255 c256 c257 c258 c259 c260 c261 c262 c263 c264 c265 c266 c267 c268 c269 c270 c271 c272 c273 c274 c275 c276 c277 c278 c279 c280 c281 c282 c283 c284 c285 c286 c287 c288 c289 c290 c291 c292 c293 c294 c295 c296 c297 c298 c299 c300 c301 c302 c303 c304 c305 c306 c307 c308 c309 c310 c311 c312 c313 c314 c315 c316 c317 c318 c319 c320 c321 c322 c323 c324 c325 c326 c327 c328 c329 c330 c331 c332 c333 c334 c335 c336 c337 c338 c339 c340 c341 c342 c343 c344 c345 c346 c347 c348 c349 c350 c351 c352 c353 c354 c355 c356 c357 c358 c359 c360 c361 c362 c363 c364 c365 c366 c367 c368 c369 c370 c371 c372 c373 c374 c375 c376 c377 c378 c379 c380 c381 c382 c383 c384 c385 c386 c387 c388 c389 c390 c391 c392 c393 c394 c395 c396 c397 c398 : Value} {W : World}
    {K : Act → World → Prop} {Q' : Exit → Act → World → Prop} (hU : U = 28) (HX : RowKit.Hid (ws.length = 26)) (HV : RowKit.Hid (validB ws sp gp l = true)) (HL : RowKit.Hid (l.length ≤ 12)) (HWR : RowKit.Hid (withR ws sp gp l ⟨pa, pb, pc⟩ = ((rv, rs, rg, rl), code))) (HRV : RowKit.Hid (rv.length = 26)) (HPA : RowKit.Hid (65 ≤ pa ∧ pa ≤ 69)) (HPB : RowKit.Hid (65 ≤ pb ∧ pb ≤ 69)) (HPC : RowKit.Hid (-4 ≤ pc ∧ pc ≤ 4))
    (I0 : RowKit.Hid (LI w U af ws sp gp l Bf df ap pa pb pc wl As W)) (DUa : RowKit.Hid (BX U ad rv rs rg rl Bd dd W))
    (rest : ∀ (u4 u20 u21 u22 u23 u24 u25 u26 u27 u28 u29 u174 u175 u176 u177 u178 u179 u180 u181 u182 u183 u184 u185 u186 u187 u188 u189 u190 u191 u192 u193 u194 u195 u196 u197 u198 u199 u200 u201 u202 u203 u204 u205 u206 u207 u208 u209 u210 u211 u212 u213 u214 u215 u216 u217 u218 u219 u220 u221 u222 u223 u224 u225 u226 u227 u228 u229 u230 u231 u232 u233 u234 u235 u236 u237 u238 u239 u240 u241 u242 u243 u244 u245 u246 u247 u248 u249 u250 u251 u252 u253 u254 u255 u256 u257 u258 u259 u260 u261 u262 u263 u264 u265 u266 u267 u268 u269 u270 u271 u272 u273 u274 u275 u276 u277 : Value) (W' : World), RowKit.Hid (LI w U af ws sp gp l Bf df ap pa pb pc wl As W') → K ⟨#[.slice A0 gs.length c0_, .slice A1 hs.length c1_, c2, c3, u4, PT af, .string T, PT ap, c8, c9, c10, .int .i64 code, PT ad, c13, c14, c15, c16, c17, c18, c19, u20, u21, u22, u23, u24, u25, u26, u27, u28, u29, c30, c31, c32, c33, c34, c35, c36, c37, c38, c39, c40, c41, c42, c43, c44, c45, c46, c47, c48, c49, c50, c51, c52, c53, c54, c55, c56, c57, c58, c59, c60, c61, c62, c63, c64, c65, c66, c67, c68, c69, c70, c71, c72, c73, c74, c75, c76, c77, c78, c79, c80, c81, c82, c83, c84, c85, c86, c87, c88, c89, c90, c91, c92, c93, c94, c95, c96, c97, c98, c99, c100, c101, c102, c103, c104, c105, c106, c107, c108, c109, c110, c111, c112, c113, c114, c115, c116, c117, c118, c119, c120, c121, c122, c123, c124, c125, c126, c127, c128, c129, c130, c131, c132, c133, c134, c135, c136, c137, c138, c139, c140, c141, c142, c143, c144, c145, c146, c147, c148, c149, c150, c151, c152, c153, c154, c155, c156, c157, c158, c159, c160, c161, c162, c163, c164, c165, c166, c167, c168, c169, c170, c171, c172, .bool (code == 0), u174, u175, u176, u177, u178, u179, u180, u181, u182, u183, u184, u185, u186, u187, u188, u189, u190, u191, u192, u193, u194, u195, u196, u197, u198, u199, u200, u201, u202, u203, u204, u205, u206, u207, u208, u209, u210, u211, u212, u213, u214, u215, u216, u217, u218, u219, u220, u221, u222, u223, u224, u225, u226, u227, u228, u229, u230, u231, u232, u233, u234, u235, u236, u237, u238, u239, u240, u241, u242, u243, u244, u245, u246, u247, u248, u249, u250, u251, u252, u253, u254, u255, u256, u257, u258, u259, u260, u261, u262, u263, u264, u265, u266, u267, u268, u269, u270, u271, u272, u273, u274, u275, u276, u277, c278, c279, c280, c281, c282, c283, c284, c285, c286, c287, c288, c289, c290, c291, c292, c293, c294, c295, c296, c297, c298, c299, c300, c301, c302, c303, c304, c305, c306, c307, c308, c309, c310, c311, c312, c313, c314, c315, c316, c317, c318, c319, c320, c321, c322, c323, c324, c325, c326, c327, c328, c329, c330, c331, c332, c333, c334, c335, c336, c337, c338, c339, c340, c341, c342, c343, c344, c345, c346, c347, c348, c349, c350, c351, c352, c353, c354, c355, c356, c357, c358, c359, c360, c361, c362, c363, c364, c365, c366, c367, c368, c369, c370, c371, c372, c373, c374, c375, c376, c377, c378, c379, c380, c381, c382, c383, c384, c385, c386, c387, c388, c389, c390, c391, c392, c393, c394, c395, c396, c397, c398], []⟩ W') :
    Code.wp Tryz.prog ((Tryz.f3.body.bind (condIn 173)).getD .skip) (Exit.then K Q') ⟨#[.slice A0 gs.length c0_, .slice A1 hs.length c1_, c2, c3, c4, PT af, .string T, PT ap, c8, c9, c10, .int .i64 code, PT ad, c13, c14, c15, c16, c17, c18, c19, c20, c21, c22, c23, c24, c25, c26, c27, c28, c29, c30, c31, c32, c33, c34, c35, c36, c37, c38, c39, c40, c41, c42, c43, c44, c45, c46, c47, c48, c49, c50, c51, c52, c53, c54, c55, c56, c57, c58, c59, c60, c61, c62, c63, c64, c65, c66, c67, c68, c69, c70, c71, c72, c73, c74, c75, c76, c77, c78, c79, c80, c81, c82, c83, c84, c85, c86, c87, c88, c89, c90, c91, c92, c93, c94, c95, c96, c97, c98, c99, c100, c101, c102, c103, c104, c105, c106, c107, c108, c109, c110, c111, c112, c113, c114, c115, c116, c117, c118, c119, c120, c121, c122, c123, c124, c125, c126, c127, c128, c129, c130, c131, c132, c133, c134, c135, c136, c137, c138, c139, c140, c141, c142, c143, c144, c145, c146, c147, c148, c149, c150, c151, c152, c153, c154, c155, c156, c157, c158, c159, c160, c161, c162, c163, c164, c165, c166, c167, c168, c169, c170, c171, c172, .bool (code == 0), c174, c175, c176, c177, c178, c179, c180, c181, c182, c183, c184, c185, c186, c187, c188, c189, c190, c191, c192, c193, c194, c195, c196, c197, c198, c199, c200, c201, c202, c203, c204, c205, c206, c207, c208, c209, c210, c211, c212, c213, c214, c215, c216, c217, c218, c219, c220, c221, c222, c223, c224, c225, c226, c227, c228, c229, c230, c231, c232, c233, c234, c235, c236, c237, c238, c239, c240, c241, c242, c243, c244, c245, c246, c247, c248, c249, c250, c251, c252, c253, c254, c255, c256, c257, c258, c259, c260, c261, c262, c263, c264, c265, c266, c267, c268, c269, c270, c271, c272, c273, c274, c275, c276, c277, c278, c279, c280, c281, c282, c283, c284, c285, c286, c287, c288, c289, c290, c291, c292, c293, c294, c295, c296, c297, c298, c299, c300, c301, c302, c303, c304, c305, c306, c307, c308, c309, c310, c311, c312, c313, c314, c315, c316, c317, c318, c319, c320, c321, c322, c323, c324, c325, c326, c327, c328, c329, c330, c331, c332, c333, c334, c335, c336, c337, c338, c339, c340, c341, c342, c343, c344, c345, c346, c347, c348, c349, c350, c351, c352, c353, c354, c355, c356, c357, c358, c359, c360, c361, c362, c363, c364, c365, c366, c367, c368, c369, c370, c371, c372, c373, c374, c375, c376, c377, c378, c379, c380, c381, c382, c383, c384, c385, c386, c387, c388, c389, c390, c391, c392, c393, c394, c395, c396, c397, c398], []⟩ W := by
  conv => arg 2; whnf
  obtain ⟨M, hM⟩ : ∃ M : Nat, M = 29 := ⟨_, rfl⟩
  have huU := fun w => (show (underlying U).run Tryz.prog w = (underlying 28).run Tryz.prog w by rw [hU]).trans (run_underlying (P := Tryz.prog) (w := w) Tryz.underlying28)
  have hzU : ∀ w, (sizeOf U).run Tryz.prog w = .ok M w := fun w => by rw [hM, hU]; exact Tryz.sizeOf28 w
  have haU : ∀ w, (isAgg U).run Tryz.prog w = .ok true w := fun w => by rw [hU]; exact Tryz.isAgg28 w
  have hvU : ∀ w, (zeroValue U).run Tryz.prog w = .ok (.agg ZF) w := fun w => by rw [hU]; exact Tryz.zeroValue28 w
  have e2 : ∀ x, Op.load 28 x = Op.load U x := fun x => by rw [hU]
  have e3 : ∀ x y, Op.store 28 x y = Op.store U x y := fun x y => by rw [hU]
  have e4 : Op.alloc 28 = Op.alloc U := by rw [hU]
  have e5 : ∀ x, Op.build 28 x = Op.build U x := fun x => by rw [hU]
  simp only [e2, e3, e4, e5]
  clear e2 e3 e4 e5
  have hFz : ZF.size = M := by rw [hM]; rfl
  have hm1 : ¬ M < 27 := by omega
  have hm2 : ¬ M < 28 := by omega
  have HM := Lib.hid hM
  clear hM hU
  have hFr : ∀ v, (FV ws sp gp v).size = M := fun v => by rw [FV_size ws HX.out, HM.out]
  have HCO := Lib.hid (put_codes HV.out HPA.out HPB.out HPC.out HWR.out)
  have HGP := Lib.hid (valid_facts HX.out HV.out).2.2.1
  go_cut [] from 174 to 277 (fun wx => RowKit.Hid (LI w U af ws sp gp l Bf df ap pa pb pc wl As wx))
  case first =>
    clear rest
    rcases HCO.out with ⟨h0, e1, e2, e3, hv2, hby, hot⟩ | h3 | ⟨h4, hneg⟩
    · subst h0
      have HE := Lib.hid (And.intro e1 (And.intro e2 e3))
      have HV2 := Lib.hid hv2
      have HBY := Lib.hid hby
      have HOT := Lib.hid hot
      clear e1 e2 e3 hv2 hby hot HCO
      have DU0 := Lib.hid (show BX U _ ws sp gp rl Bd dd W from by have h := DUa.out; rw [HE.out.1, HE.out.2.1, HE.out.2.2] at h; exact h)
      clear DUa
      have q0_0 := loadF DU0.out.k HX.out HM.out
      have q0_1 := (show _ = some (Value.int .u8 pa) from (blk_cell I0.out.p 0).trans rfl)
      have q0_2 := (show _ = some (Value.int .u8 pb) from (blk_cell I0.out.p 1).trans rfl)
      have vp : wrap64 pc = pc := by have := HPC.out; exact wrap_id (by omega) (by omega)
      have vq : (pc != pc) = false := by simp
      go_wp2_with (first
        | (go_at_call 20
           with_reducible refine (implPairD ws HX.out sp gp Bd dd rl HV2.out pa pb (by have := HPA.out; omega) (by have := HPB.out; omega) pc HBY.out _ DU0.out.c DU0.out.d).mono ?_
           rintro e w1 ⟨rfl, hb⟩
           have I1 := Lib.hid (I0.out.below hb)
           have DU1 := Lib.hid (DU0.out.below hb)
           clear hb I0 DU0 q0_0 q0_1 q0_2
           have q1_0 := loadF DU1.out.k HX.out HM.out
           have q1_1 := (show _ = some (Value.int .i8 pc) from (blk_cell I1.out.p 2).trans rfl))
        | (go_at_call 17
           with_reducible refine (validD ws HX.out sp gp Bd dd rl HV2.out _ DU1.out.c DU1.out.d).mono ?_
           rintro e w2 ⟨rfl, hb⟩
           have I2 := Lib.hid (I1.out.below hb)
           have DU2 := Lib.hid (DU1.out.below hb)
           clear hb I1 DU1 q1_0 q1_1))
      clear vp vq 
      go_loopw [22] (fun i wr => ∃ a : Int, (65 ≤ a ∧ a ≤ 71) ∧ i = .int .u8 a ∧ RowKit.Hid (LI w U af ws sp gp l Bf df ap pa pb pc wl As wr) ∧ RowKit.Hid (BX U ad ws sp gp rl Bd dd wr)) (fun i _ => (71 - intOf i).toNat)
      case atStart => exact ⟨65, by decide, rfl, I2, DU2⟩
      case round =>
        obtain ⟨a, ha, rfl, IA, DA⟩ := hrel
        by_cases ha2 : a ≤ 70
        · have va : (a + 1) % 256 = a + 1 := by omega
          go_wp2
          go_loopw [23] (fun i wr => ∃ b : Int, (65 ≤ b ∧ b ≤ 71) ∧ i = .int .u8 b ∧ RowKit.Hid (LI w U af ws sp gp l Bf df ap pa pb pc wl As wr) ∧ RowKit.Hid (BX U ad ws sp gp rl Bd dd wr)) (fun i _ => (71 - intOf i).toNat)
          case atStart => exact ⟨65, by decide, rfl, IA, DA⟩
          case round =>
            obtain ⟨b, hbb, rfl, IB, DB⟩ := hrel
            by_cases hb2 : b ≤ 70
            · have vb : (b + 1) % 256 = b + 1 := by omega
              clear IA DA
              obtain ⟨x, hx⟩ : ∃ x, byL a b l = x := ⟨_, rfl⟩
              obtain ⟨y, hy⟩ : ∃ y, byL a b rl = y := ⟨_, rfl⟩
              have HBX := Lib.hid hx
              have HBYY := Lib.hid hy
              have HAR := Lib.hid (show (65 ≤ a ∧ a ≤ 90) ∧ (65 ≤ b ∧ b ≤ 90) by omega)
              clear hx hy
              have I100 := IB
              have DU100 := DB
              clear IB DB
              have q100_0 := loadF I100.out.f.k HX.out HM.out
              go_upto_region 27 with (first
                | (go_at_call 20
                   with_reducible refine (implPairD ws HX.out sp gp Bf df l HV.out a b HAR.out.1 HAR.out.2 x HBX.out _ I100.out.f.c I100.out.f.d).mono ?_
                   rintro e w101 ⟨rfl, hb⟩
                   have I101 := Lib.hid (I100.out.below hb)
                   have DU101 := Lib.hid (DU100.out.below hb)
                   clear hb I100 DU100 q100_0
                   have q101_0 := loadF DU101.out.k HX.out HM.out)
                | (go_at_call 20
                   with_reducible refine (implPairD ws HX.out sp gp Bd dd rl HV2.out a b HAR.out.1 HAR.out.2 y HBYY.out _ DU101.out.c DU101.out.d).mono ?_
                   rintro e w102 ⟨rfl, hb⟩
                   have I102 := Lib.hid (I101.out.below hb)
                   have DU102 := Lib.hid (DU101.out.below hb)
                   clear hb I101 DU101 q101_0
                   have q102_0 := loadF I102.out.f.k HX.out HM.out)
                | (go_at_call 21
                   with_reducible refine (specPairD ws HX.out sp gp Bf df l HV.out a b HAR.out.1 HAR.out.2 x HBX.out _ I102.out.f.c I102.out.f.d).mono ?_
                   rintro e w103 ⟨rfl, hb⟩
                   have I103 := Lib.hid (I102.out.below hb)
                   have DU103 := Lib.hid (DU102.out.below hb)
                   clear hb I102 DU102 q102_0
                   have q103_0 := (show _ = some (Value.int .u8 pa) from (blk_cell I103.out.p 0).trans rfl)
                   have q103_1 := (show _ = some (Value.int .u8 pb) from (blk_cell I103.out.p 1).trans rfl)))
              have vx : (x != x) = false := by simp
              by_cases h1 : a = pa
              · have t1 : (a != pa) = false := bne_eq_false_iff_eq.2 h1
                by_cases h2 : b = pb
                · have t2 : (b != pb) = false := bne_eq_false_iff_eq.2 h2
                  clear h1 h2
                  go_wp2
                  go_roundw
                  case measure => simp only [intOf]; omega
                  case rel => exact ⟨b + 1, by omega, by go_num, I103, DU103⟩
                · have t2 : (b != pb) = true := bne_iff_ne.2 h2
                  have hyx : x = y := HBX.out.symm.trans ((HOT.out a b (fun h => h2 h.2)).symm.trans HBYY.out)
                  subst hyx
                  clear h1 h2
                  go_wp2
                  go_roundw
                  case measure => simp only [intOf]; omega
                  case rel => exact ⟨b + 1, by omega, by go_num, I103, DU103⟩
              · have t1 : (a != pa) = true := bne_iff_ne.2 h1
                have hyx : x = y := HBX.out.symm.trans ((HOT.out a b (fun h => h1 h.1)).symm.trans HBYY.out)
                subst hyx
                clear h1
                go_wp2
                go_roundw
                case measure => simp only [intOf]; omega
                case rel => exact ⟨b + 1, by omega, by go_num, I103, DU103⟩
            · clear IA DA
              go_wp2
              go_roundw
              case measure => simp only [intOf]; omega
              case rel => exact ⟨a + 1, by omega, by go_num, IB, DB⟩
        · go_wp2
          go_meet
          exact IA
    · subst h3
      clear HCO
      go_wp2
      go_meet
      exact I0
    · subst h4
      clear HCO
      have vg : wrap64 gp = gp := by have := HGP.out; exact wrap_id (by omega) (by omega)
      have vp : wrap64 pc = pc := by have := HPC.out; exact wrap_id (by omega) (by omega)
      have vs : wrap64 (gp + pc) = gp + pc := by have := HPC.out; have := HGP.out; exact wrap_id (by omega) (by omega)
      have hn1 : ¬ 0 ≤ gp + pc := by omega
      have hn2 : decide (gp + pc ≥ 0) = false := decide_eq_false hn1
      have qg := (show _ = some (Value.int .i8 gp) from (blk_cell I0.out.f.k 27).trans (FV_27 ws HX.out sp gp _))
      have qp := (show _ = some (Value.int .i8 pc) from (blk_cell I0.out.p 2).trans rfl)
      go_wp2
      go_meet
      exact I0
  case rest =>
    exact rest _ _ _ _ _ _ _ _ _ _ _ _ _ _ _ _ _ _ _ _ _ _ _ _ _ _ _ _ _ _ _ _ _ _ _ _ _ _ _ _ _ _ _ _ _ _ _ _ _ _ _ _ _ _ _ _ _ _ _ _ _ _ _ _ _ _ _ _ _ _ _ _ _ _ _ _ _ _ _ _ _ _ _ _ _ _ _ _ _ _ _ _ _ _ _ _ _ _ _ _ _ _ _ _ _ _ _ _ _ _ _ _ _ _ _ wc hcut
end Go.Proofs.YtimkkjkgbbfgbaaGreatDoor.Q
