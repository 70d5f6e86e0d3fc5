/- The law on faces: the face that is loosened. -/
import Derived.Test.YtimkkjkgbbfgbaaGreatDoorQhandFfB
import Derived.Deep.CutRange
namespace Go.Proofs.YtimkkjkgbbfgbaaGreatDoor.Q
open Go.RowKit Go.Proofs.YtimkkjkgbbfgbaaGreatDoorW.PrintWords Go.Proofs.YtimkkjkgbbfgbaaGreatDoorW.PrintLast Go.Proofs.YtimkkjkgbbfgbaaGreatDoorW.PrintMore
open Go.Proofs.YtimkkjkgbbfgbaaGreatDoor.Pure
set_option linter.unusedVariables false
set_option linter.unusedSimpArgs false

set_option maxHeartbeats 16000000 in
set_option maxRecDepth 1000000 in
theorem segLoosen {U : TypeId} {w : World} {A0 A1 : Option Addr} {c0_ c1_ : Nat} {gs hs : List Int} {af ap : Nat} {T : ByteArray} {ws : List Int} {sp gp : Int} {l : List S33} {Bf : Option Addr} {df : Nat} {pa pb pc : Int} {wl : List ByteArray} {As : Option Addr} {c2 c3 c4 c8 c9 c10 c11 c12 c13 c14 c15 c16 c17 c18 c19 c20 c21 c22 c23 c24 c25 c26 c27 c28 c29 c30 c31 c32 c33 c34 c35 c36 c37 c38 c39 c40 c41 c42 c43 c44 c45 c46 c47 c48 c49 c50 c51 c52 c53 c54 c55 c56 c57 c58 c59 c60 c61 c62 c63 c64 c65 c66 c67 c68 c69 c70 c71 c72 c73 c74 c75 c76 c77 c78 c79 c80 c81 c82 c83 c84 c85 c86 c87 c88 c89 c90 c91 c92 c93 c94 c95 c96 c97 c98 c99 c100 c101 c102 c103 c104 c105 c106 c107 c108 c109 c110 c111 c112 c113 c114 c115 c116 c117 c118 c119 c120 c121 c122 c123 c124 c125 c126 c127 c128 c129 c130 c131 c132 c133 c134 c135 c136 c137 c138 c139 c140 c141 c142 c143 c144 c145 c146 c147 c148 c149 c150 c151 c152 c153 c154 c155 c156 c157 c158 c159 c160 c161 c162 c163 c164 c165 c166 c167 c168 c169 c170 c171 c172 c173 c174 c175 c176 c177 c178 c179 c180 c181 c182 c183 c184 c185 c186 c187 c188 c189 c190 c191 c192 c193 c194 c195 c196 c197 c198 c199 c200 c201 c202 c203 c204 c205 c206 c207 c208 c209 c210 c211 c212 c213 c214 c215 c216 c217 c218 c219 c220 c221 c222 c223 c224 c225 c226 c227 c228 c229 c230 c231 c232 c233 c234 c235 c236 c237 c238 c239 c240 c241 c242 c243 c244 c245 c246 c247 c248 c249 c250 c251 c252 c253 c254 c255 c256 c257 c258 c259 c260 c261 c262 c263 c264 c265 c266 c267 c268 c269 c270 c271 c272 c273 c274 c275 c276 c277 c278 c279 c280 c281 c282 c283 c284 c285 c286 c287 c288 c289 c290 c291 c292 c293 c294 c295 c296 c297 c298 c299 c300 c301 c302 c303 c304 c305 c306 c307 c308 c309 c310 c311 c312 c313 c314 c315 c316 c317 c318 c319 c320 c321 c322 c323 c324 c325 c326 c327 c328 c329 c330 c331 c332 c333 c334 c335 c336 c337 c338 c339 c340 c341 c342 c343 c344 c345 c346 c347 c348 c349 c350 c351 c352 c353 c354 c355 c356 c357 c358 c359 c360 c361 c362 c363 c364 c365 c366 c367 c368 c369 c370 c371 c372 c373 c374 c375 c376 c377 c378 c379 c380 c381 c382 c383 c384 c385 c386 c387 c388 c389 c390 c391 c392 c393 c394 c395 c396 c397 c398 : Value} {W : World}
    {Q : Exit → Act → World → Prop} (hU : U = 28) (HX : RowKit.Hid (ws.length = 26)) (HV : RowKit.Hid (validB ws sp gp l = true)) (HL : RowKit.Hid (l.length ≤ 12)) (HHS : RowKit.Hid (bytesL hs)) (HR1 : RowKit.Hid (Kd.C (Kd.int .u8) w A1 hs.length hs)) (HC1 : RowKit.Hid (hs.length ≤ c1_))
    (I200 : RowKit.Hid (LI w U af ws sp gp l Bf df ap pa pb pc wl As W))
    (rest : ∀ (u4 u30 u31 u32 u33 u34 u35 u36 u278 u279 u280 u281 u282 u283 u284 u285 u286 u287 u288 u289 u290 u291 u292 u293 u294 u295 u296 u297 u298 u299 u300 u301 u302 u303 u304 u305 u306 u307 u308 u309 u310 u311 u312 u313 u314 u315 u316 u317 u318 u319 u320 u321 u322 u323 u324 u325 u326 u327 u328 u329 u330 u331 u332 u333 u334 u335 u336 u337 u338 u339 u340 u341 u342 u343 u344 : Value) (W' : World), RowKit.Hid (LI w U af ws sp gp l Bf df ap pa pb pc wl As W') → Code.wp Tryz.prog ((Tryz.f3.body.bind (tailFrom 40)).getD .skip) Q ⟨#[.slice A0 gs.length c0_, .slice A1 hs.length c1_, c2, c3, u4, PT af, .string T, PT ap, c8, c9, c10, c11, c12, c13, c14, c15, c16, c17, c18, c19, c20, c21, c22, c23, c24, c25, c26, c27, c28, c29, u30, u31, u32, u33, u34, u35, u36, c37, c38, c39, c40, c41, c42, c43, c44, c45, c46, c47, c48, c49, c50, c51, c52, c53, c54, c55, c56, c57, c58, c59, c60, c61, c62, c63, c64, c65, c66, c67, c68, c69, c70, c71, c72, c73, c74, c75, c76, c77, c78, c79, c80, c81, c82, c83, c84, c85, c86, c87, c88, c89, c90, c91, c92, c93, c94, c95, c96, c97, c98, c99, c100, c101, c102, c103, c104, c105, c106, c107, c108, c109, c110, c111, c112, c113, c114, c115, c116, c117, c118, c119, c120, c121, c122, c123, c124, c125, c126, c127, c128, c129, c130, c131, c132, c133, c134, c135, c136, c137, c138, c139, c140, c141, c142, c143, c144, c145, c146, c147, c148, c149, c150, c151, c152, c153, c154, c155, c156, c157, c158, c159, c160, c161, c162, c163, c164, c165, c166, c167, c168, c169, c170, c171, c172, c173, c174, c175, c176, c177, c178, c179, c180, c181, c182, c183, c184, c185, c186, c187, c188, c189, c190, c191, c192, c193, c194, c195, c196, c197, c198, c199, c200, c201, c202, c203, c204, c205, c206, c207, c208, c209, c210, c211, c212, c213, c214, c215, c216, c217, c218, c219, c220, c221, c222, c223, c224, c225, c226, c227, c228, c229, c230, c231, c232, c233, c234, c235, c236, c237, c238, c239, c240, c241, c242, c243, c244, c245, c246, c247, c248, c249, c250, c251, c252, c253, c254, c255, c256, c257, c258, c259, c260, c261, c262, c263, c264, c265, c266, c267, c268, c269, c270, c271, c272, c273, c274, c275, c276, c277, u278, u279, u280, u281, u282, u283, u284, u285, u286, u287, u288, u289, u290, u291, u292, u293, u294, u295, u296, u297, u298, u299, u300, u301, u302, u303, u304, u305, u306, u307, u308, u309, u310, u311, u312, u313, u314, u315, u316, u317, u318, u319, u320, u321, u322, u323, u324, u325, u326, u327, u328, u329, u330, u331, u332, u333, u334, u335, u336, u337, u338, u339, u340, u341, u342, u343, u344, c345, c346, c347, c348, c349, c350, c351, c352, c353, c354, c355, c356, c357, c358, c359, c360, c361, c362, c363, c364, c365, c366, c367, c368, c369, c370, c371, c372, c373, c374, c375, c376, c377, c378, c379, c380, c381, c382, c383, c384, c385, c386, c387, c388, c389, c390, c391, c392, c393, c394, c395, c396, c397, c398], []⟩ W') :
    Code.wp Tryz.prog ((Tryz.f3.body.bind (tailFrom 31)).getD .skip) Q ⟨#[.slice A0 gs.length c0_, .slice A1 hs.length c1_, c2, c3, c4, PT af, .string T, PT ap, c8, c9, c10, c11, c12, c13, c14, c15, c16, c17, c18, c19, c20, c21, c22, c23, c24, c25, c26, c27, c28, c29, c30, c31, c32, c33, c34, c35, c36, c37, c38, c39, c40, c41, c42, c43, c44, c45, c46, c47, c48, c49, c50, c51, c52, c53, c54, c55, c56, c57, c58, c59, c60, c61, c62, c63, c64, c65, c66, c67, c68, c69, c70, c71, c72, c73, c74, c75, c76, c77, c78, c79, c80, c81, c82, c83, c84, c85, c86, c87, c88, c89, c90, c91, c92, c93, c94, c95, c96, c97, c98, c99, c100, c101, c102, c103, c104, c105, c106, c107, c108, c109, c110, c111, c112, c113, c114, c115, c116, c117, c118, c119, c120, c121, c122, c123, c124, c125, c126, c127, c128, c129, c130, c131, c132, c133, c134, c135, c136, c137, c138, c139, c140, c141, c142, c143, c144, c145, c146, c147, c148, c149, c150, c151, c152, c153, c154, c155, c156, c157, c158, c159, c160, c161, c162, c163, c164, c165, c166, c167, c168, c169, c170, c171, c172, c173, c174, c175, c176, c177, c178, c179, c180, c181, c182, c183, c184, c185, c186, c187, c188, c189, c190, c191, c192, c193, c194, c195, c196, c197, c198, c199, c200, c201, c202, c203, c204, c205, c206, c207, c208, c209, c210, c211, c212, c213, c214, c215, c216, c217, c218, c219, c220, c221, c222, c223, c224, c225, c226, c227, c228, c229, c230, c231, c232, c233, c234, c235, c236, c237, c238, c239, c240, c241, c242, c243, c244, c245, c246, c247, c248, c249, c250, c251, c252, c253, c254, c255, c256, c257, c258, c259, c260, c261, c262, c263, c264, c265, c266, c267, c268, c269, c270, c271, c272, c273, c274, c275, c276, c277, c278, c279, c280, c281, c282, c283, c284, c285, c286, c287, c288, c289, c290, c291, c292, c293, c294, c295, c296, c297, c298, c299, c300, c301, c302, c303, c304, c305, c306, c307, c308, c309, c310, c311, c312, c313, c314, c315, c316, c317, c318, c319, c320, c321, c322, c323, c324, c325, c326, c327, c328, c329, c330, c331, c332, c333, c334, c335, c336, c337, c338, c339, c340, c341, c342, c343, c344, c345, c346, c347, c348, c349, c350, c351, c352, c353, c354, c355, c356, c357, c358, c359, c360, c361, c362, c363, c364, c365, c366, c367, c368, c369, c370, c371, c372, c373, c374, c375, c376, c377, c378, c379, c380, c381, c382, c383, c384, c385, c386, c387, c388, c389, c390, c391, c392, c393, c394, c395, c396, c397, c398], []⟩ W := by
  conv => arg 2; whnf
  obtain ⟨M, hM⟩ : ∃ M : Nat, M = 29 := ⟨_, rfl⟩
  have huU := fun w => (show (underlying U).run Tryz.prog w = (underlying 28).run Tryz.prog w by rw [hU]).trans (run_underlying (P := Tryz.prog) (w := w) Tryz.underlying28)
  have hzU : ∀ w, (sizeOf U).run Tryz.prog w = .ok M w := fun w => by rw [hM, hU]; exact Tryz.sizeOf28 w
  have haU : ∀ w, (isAgg U).run Tryz.prog w = .ok true w := fun w => by rw [hU]; exact Tryz.isAgg28 w
  have hvU : ∀ w, (zeroValue U).run Tryz.prog w = .ok (.agg ZF) w := fun w => by rw [hU]; exact Tryz.zeroValue28 w
  have e2 : ∀ x, Op.load 28 x = Op.load U x := fun x => by rw [hU]
  have e3 : ∀ x y, Op.store 28 x y = Op.store U x y := fun x y => by rw [hU]
  have e4 : Op.alloc 28 = Op.alloc U := by rw [hU]
  have e5 : ∀ x, Op.build 28 x = Op.build U x := fun x => by rw [hU]
  simp only [e2, e3, e4, e5]
  clear e2 e3 e4 e5
  have hFz : ZF.size = M := by rw [hM]; rfl
  have hm1 : ¬ M < 27 := by omega
  have hm2 : ¬ M < 28 := by omega
  have HM := Lib.hid hM
  clear hM hU
  have hFr : ∀ v, (FV ws sp gp v).size = M := fun v => by rw [FV_size ws HX.out, HM.out]
  have HGP := Lib.hid (valid_facts HX.out HV.out).2.2.1
  have HREST := Lib.hid rest
  clear rest
  go_upto_region 32 with (first
    | (go_at_call 7
       with_reducible refine (atD A1 c1_ hs HHS.out 3 9 (by decide) (by decide) _ (Kd.C_below HR1.out I200.out.b) HC1.out).mono ?_
       rintro e w201 ⟨x3, rfl, hx3, hb⟩
       have I201 := Lib.hid (I200.out.below hb)
       obtain ⟨nb, hnb⟩ : ∃ y, y = x3 - 4 := ⟨_, rfl⟩
       have v4 : wrap64 (x3 - 4) = nb := by rw [hnb]; exact wrap_id (by omega) (by omega)
       have HNB := Lib.hid (show -4 ≤ nb ∧ nb ≤ 4 by omega)
       clear hb I200 hx3 hnb))
  rw [v4]
  clear v4
  obtain ⟨qv, qs, qg, ql, code2, hlr⟩ : ∃ rv rs rg rl code, loosenR ws sp gp l nb = ((rv, rs, rg, rl), code) := ⟨_, _, _, _, _, rfl⟩
  have HLR := Lib.hid hlr
  have HQV := Lib.hid (loosen_len HX.out hlr)
  have HQL := Lib.hid (loosen_fit HL.out hlr)
  have hFr3 : ∀ v, (FV qv qs qg v).size = M := fun v => by rw [FV_size qv HQV.out, HM.out]
  clear hlr
  have q201_0 := loadF I201.out.f.k HX.out HM.out
  go_upto_region 34 with (first
    | (go_at_call 22
       with_reducible refine (implLoosenD ws HX.out sp gp Bf df l HV.out nb _ I201.out.f.c I201.out.f.d qv qs qg ql code2 HLR.out).mono ?_
       rintro e w202 ⟨Bl, dl, rfl, hR, hb⟩
       have I202 := Lib.hid (I201.out.below hb)
       have HCC := Lib.hid (show Kd.C k33 w202 Bl ql.length ql ∧ ql.length ≤ dl from ⟨(Kd.R_reads' hR).2.2, (Kd.R_reads' hR).2.1⟩)
       clear hb I201 q201_0 hR
       obtain ⟨x1, x2, x3⟩ := boxed w202 U qv qs qg (.slice Bl ql.length dl)
       have hst202 := store_new w202 U qv HQV.out qs qg Bl ql.length dl
       obtain ⟨w203, hww203⟩ : ∃ w203, w203 = (w202.alloc (.cells ZF U)).setRow w202.heap.size (FV qv qs qg (.slice Bl ql.length dl)) := ⟨_, rfl⟩
       rw [← hww203] at hst202 x1 x2 x3
       clear hww203
       have I203 := Lib.hid (I202.out.below x1)
       have LO203 := Lib.hid (show BX U w202.heap.size qv qs qg ql Bl dl w203 from ⟨x2, Kd.C_below HCC.out.1 x1, HCC.out.2⟩)
       clear x1 x2 x3 HCC I202
       have q203_0 := loadF I203.out.f.k HX.out HM.out)
    | (go_at_call 23
       with_reducible refine (specLoosenD ws HX.out sp gp Bf df l HV.out nb _ I203.out.f.c I203.out.f.d qv qs qg ql code2 HLR.out).mono ?_
       rintro e w204 ⟨Bm, dm, rfl, hR, hb⟩
       have I204 := Lib.hid (I203.out.below hb)
       have LO204 := Lib.hid (LO203.out.below hb)
       have HCC := Lib.hid (show Kd.C k33 w204 Bm ql.length ql ∧ ql.length ≤ dm from ⟨(Kd.R_reads' hR).2.2, (Kd.R_reads' hR).2.1⟩)
       clear hb I203 LO203 q203_0 hR
       obtain ⟨x1, x2, x3⟩ := boxed w204 U qv qs qg (.slice Bm ql.length dm)
       have hst204 := store_new w204 U qv HQV.out qs qg Bm ql.length dm
       obtain ⟨w205, hww205⟩ : ∃ w205, w205 = (w204.alloc (.cells ZF U)).setRow w204.heap.size (FV qv qs qg (.slice Bm ql.length dm)) := ⟨_, rfl⟩
       rw [← hww205] at hst204 x1 x2 x3
       clear hww205
       have I205 := Lib.hid (I204.out.below x1)
       have LO205 := Lib.hid (LO204.out.below x1)
       have MO205 := Lib.hid (show BX U w204.heap.size qv qs qg ql Bm dm w205 from ⟨x2, Kd.C_below HCC.out.1 x1, HCC.out.2⟩)
       clear x1 x2 x3 HCC I204 LO204))
  clear hst202 hst204
  have HLC := Lib.hid (loosen_two HV.out HLR.out)
  go_cut [309] from 293 to 309 (fun s wx => s = .bool false ∧ RowKit.Hid (LI w U af ws sp gp l Bf df ap pa pb pc wl As wx) ∧ RowKit.Hid (BX U w204.heap.size qv qs qg ql Bm dm wx))
  case first =>
    have q205_0 := loadF LO205.out.k HQV.out HM.out
    have q205_1 := loadF MO205.out.k HQV.out HM.out
    rcases HLC.out with h0 | h4
    · subst h0
      go_wp2_with (first
        | (go_at_call 15
           with_reducible refine (specSameD qv HQV.out qs qg Bl Bm dl dm ql HQL.out _ LO205.out.c LO205.out.d MO205.out.c MO205.out.d).mono ?_
           rintro e w206 ⟨rfl, hb⟩
           have I206 := Lib.hid (I205.out.below hb)
           have LO206 := Lib.hid (LO205.out.below hb)
           have MO206 := Lib.hid (MO205.out.below hb)
           clear hb I205 LO205 MO205 q205_0 q205_1))
      go_meet
      exact ⟨rfl, I206, MO206⟩
    · subst h4
      go_wp2_with (first
        | (go_at_call 15
           with_reducible refine (specSameD qv HQV.out qs qg Bl Bm dl dm ql HQL.out _ LO205.out.c LO205.out.d MO205.out.c MO205.out.d).mono ?_
           rintro e w206 ⟨rfl, hb⟩
           have I206 := Lib.hid (I205.out.below hb)
           have LO206 := Lib.hid (LO205.out.below hb)
           have MO206 := Lib.hid (MO205.out.below hb)
           clear hb I205 LO205 MO205 q205_0 q205_1))
      go_meet
      exact ⟨rfl, I206, MO206⟩
  case rest =>
  obtain ⟨hs309, I300, MO300⟩ := hcut
  subst hs309
  clear I205 LO205 MO205
  go_upto_if 311 with (fail)
  go_cut [] from 310 to 344 (fun wx => RowKit.Hid (LI w U af ws sp gp l Bf df ap pa pb pc wl As wx))
  case first =>
    rcases HLC.out with h0 | h4
    · subst h0
      obtain ⟨e1, e2, e4, e3, hvm, hback⟩ := loosen_facts HV.out HLR.out
      subst e1 e2 e4
      have HQG := Lib.hid e3
      have HVM := Lib.hid hvm
      have HBK := Lib.hid hback
      clear e3 hvm hback
      have vn : IntKind.i64.wrap (-nb) = -nb := by have := HNB.out; exact IntWalk.i64_in _ (by omega)
      have vq : wrap64 qg = qg := by have := HGP.out; have := HNB.out; have := HQG.out; exact wrap_id (by omega) (by omega)
      have vg : wrap64 gp = gp := by have := HGP.out; exact wrap_id (by omega) (by omega)
      have vs : wrap64 (gp + nb) = qg := by have := HGP.out; have := HNB.out; rw [HQG.out]; exact wrap_id (by omega) (by omega)
      have tq : (qg != qg) = false := by simp
      have tb1 : (sp != sp) = false := by simp
      have q300_0 := loadF MO300.out.k HX.out HM.out
      go_wp2_with (first
        | (go_at_call 22
           with_reducible refine (implLoosenD ws HX.out sp qg Bm dm l HVM.out (-nb) _ MO300.out.c MO300.out.d ws sp gp l 0 HBK.out).mono ?_
           rintro e w301 ⟨Bb, db, rfl, hR, hb⟩
           have I301 := Lib.hid (I300.out.below hb)
           have MO301 := Lib.hid (MO300.out.below hb)
           have HCC := Lib.hid (show Kd.C k33 w301 Bb l.length l ∧ l.length ≤ db from ⟨(Kd.R_reads' hR).2.2, (Kd.R_reads' hR).2.1⟩)
           clear hb I300 MO300 q300_0 hR
           obtain ⟨x1, x2, x3⟩ := boxed w301 U ws sp gp (.slice Bb l.length db)
           have hst301 := store_new w301 U ws HX.out sp gp Bb l.length db
           obtain ⟨w302, hww302⟩ : ∃ w302, w302 = (w301.alloc (.cells ZF U)).setRow w301.heap.size (FV ws sp gp (.slice Bb l.length db)) := ⟨_, rfl⟩
           rw [← hww302] at hst301 x1 x2 x3
           clear hww302
           have I302 := Lib.hid (I301.out.below x1)
           have MO302 := Lib.hid (MO301.out.below x1)
           have BA302 := Lib.hid (show BX U w301.heap.size ws sp gp l Bb db w302 from ⟨x2, Kd.C_below HCC.out.1 x1, HCC.out.2⟩)
           clear x1 x2 x3 HCC I301 MO301
           have q302_0 := (show _ = some (Value.int .i8 sp) from (blk_cell BA302.out.k 26).trans (FV_26 ws HX.out sp _ _))
           have q302_1 := (show _ = some (Value.int .i8 sp) from (blk_cell I302.out.f.k 26).trans (FV_26 ws HX.out sp _ _))
           have q302_2 := loadF BA302.out.k HX.out HM.out
           have q302_3 := loadF I302.out.f.k HX.out HM.out)
        | (go_at_call 15
           with_reducible refine (specSameD ws HX.out sp gp Bb Bf db df l HL.out _ BA302.out.c BA302.out.d I302.out.f.c I302.out.f.d).mono ?_
           rintro e w303 ⟨rfl, hb⟩
           have I303 := Lib.hid (I302.out.below hb)
           have MO303 := Lib.hid (MO302.out.below hb)
           have BA303 := Lib.hid (BA302.out.below hb)
           clear hb I302 MO302 BA302 q302_0 q302_1 q302_2 q302_3
           have q303_0 := (show _ = some (Value.int .i8 qg) from (blk_cell MO303.out.k 27).trans (FV_27 ws HX.out sp qg _))
           have q303_1 := (show _ = some (Value.int .i8 gp) from (blk_cell I303.out.f.k 27).trans (FV_27 ws HX.out sp gp _))))
      go_meet
      exact I303
    · subst h4
      go_wp2
      go_meet
      exact I300
  case rest =>
    clear HLC
    go_step
    exact HREST.out _ _ _ _ _ _ _ _ _ _ _ _ _ _ _ _ _ _ _ _ _ _ _ _ _ _ _ _ _ _ _ _ _ _ _ _ _ _ _ _ _ _ _ _ _ _ _ _ _ _ _ _ _ _ _ _ _ _ _ _ _ _ _ _ _ _ _ _ _ _ _ _ _ _ _ wc hcut
end Go.Proofs.YtimkkjkgbbfgbaaGreatDoor.Q
