/- The law on faces: letters counted. -/
import Derived.Test.YtimkkjkgbbfgbaaGreatDoorQhandFfB
import Derived.Deep.DeepCutAuto
namespace Go.Proofs.YtimkkjkgbbfgbaaGreatDoor.Q
open Go.RowKit Go.Proofs.YtimkkjkgbbfgbaaGreatDoorW.PrintWords Go.Proofs.YtimkkjkgbbfgbaaGreatDoorW.PrintLast Go.Proofs.YtimkkjkgbbfgbaaGreatDoorW.PrintMore
open Go.Proofs.YtimkkjkgbbfgbaaGreatDoor.Pure
set_option linter.unusedVariables false
set_option linter.unusedSimpArgs false

set_option maxHeartbeats 16000000 in
set_option maxRecDepth 1000000 in
theorem segCounts {w : World} {T : ByteArray} {wl : List ByteArray} {As : Option Addr} {cs : Nat} {c0 c1 c2 c3 c4 c5 c7 c8 c9 c10 c11 c12 c13 c14 c15 c17 c18 c19 c20 c21 c22 c23 c24 c25 c26 c27 c28 c29 c30 c31 c32 c33 c34 c35 c36 c37 c38 c39 c40 c41 c42 c43 c44 c45 c46 c47 c48 c49 c50 c51 c52 c53 c54 c55 c56 c57 c58 c59 c60 c61 c62 c63 c64 c65 c66 c67 c68 c69 c70 c71 c72 c73 c74 c75 c76 c77 c78 c79 c80 c81 c82 c83 c84 c85 c86 c87 c88 c89 c90 c91 c92 c93 c94 c95 c96 c97 c98 c99 c100 c101 c102 c103 c104 c105 c106 c107 c108 c109 c110 c111 c112 c113 c114 c115 c116 c117 c118 c119 c120 c121 c122 c123 c124 c125 c126 c127 c128 c129 c130 c131 c132 c133 c134 c135 c136 c137 c138 c139 c140 c141 c142 c143 c144 c145 c146 c147 c148 c149 c150 c151 c152 c153 c154 c155 c156 c157 c158 c159 c160 c161 c162 c163 c164 c165 c166 c167 c168 c169 c170 c171 c172 c173 c174 c175 c176 c177 c178 c179 c180 c181 c182 c183 c184 c185 c186 c187 c188 c189 c190 c191 c192 c193 c194 c195 c196 c197 c198 c199 c200 c201 c202 c203 c204 c205 c206 c207 c208 c209 c210 c211 c212 c213 c214 c215 c216 c217 c218 c219 c220 c221 c222 c223 c224 c225 c226 c227 c228 c229 c230 c231 c232 c233 c234 c235 c236 c237 c238 c239 c240 c241 c242 c243 c244 c245 c246 c247 c248 c249 c250 c251 c252 c253 c254 c255 c256 c257 c258 c259 c260 c261 c262 c263 c264 c265 c266 c267 c268 c269 c270 c271 c272 c273 c274 c275 c276 c277 c278 c279 c280 c281 c282 c283 c284 c285 c286 c287 c288 c289 c290 c291 c292 c293 c294 c295 c296 c297 c298 c299 c300 c301 c302 c303 c304 c305 c306 c307 c308 c309 c310 c311 c312 c313 c314 c315 c316 c317 c318 c319 c320 c321 c322 c323 c324 c325 c326 c327 c328 c329 c330 c331 c332 c333 c334 c335 c336 c337 c338 c339 c340 c341 c342 c343 c344 c345 c346 c347 c348 c349 c350 c351 c352 c353 c354 c355 c356 c357 c358 c359 c360 c361 c362 c363 c364 c365 c366 c367 c368 c369 c370 c371 c372 c373 c374 c375 c376 c377 c378 c379 c380 c381 c382 c383 c384 c385 c386 c387 c388 c389 c390 c391 c392 c393 c394 c395 c396 c397 c398 : Value} {W : World}
    (HWL : RowKit.Hid (wl.length ≤ 6 ∧ ∀ x ∈ wl, saidB x)) (HT : RowKit.Hid (T = joinB wl blank)) (HG : RowKit.Hid (∀ W, Below w.heap.size w W → GlobFP W)) (B400 : RowKit.Hid (Below w.heap.size w W)) (LS400 : RowKit.Hid (Kd.C Kd.string W As wl.length wl)) :
    Code.wp Tryz.prog ((Tryz.f3.body.bind (tailFrom 40)).getD .skip) (bodyPost Tryz.prog Tryz.f3 fun e w' => e = .returned (.bool true) ∧ Below w.heap.size w w') ⟨#[c0, c1, c2, c3, c4, c5, .string T, c7, c8, c9, c10, c11, c12, c13, c14, c15, .slice As wl.length cs, c17, c18, c19, c20, c21, c22, c23, c24, c25, c26, c27, c28, c29, c30, c31, c32, c33, c34, c35, c36, c37, c38, c39, c40, c41, c42, c43, c44, c45, c46, c47, c48, c49, c50, c51, c52, c53, c54, c55, c56, c57, c58, c59, c60, c61, c62, c63, c64, c65, c66, c67, c68, c69, c70, c71, c72, c73, c74, c75, c76, c77, c78, c79, c80, c81, c82, c83, c84, c85, c86, c87, c88, c89, c90, c91, c92, c93, c94, c95, c96, c97, c98, c99, c100, c101, c102, c103, c104, c105, c106, c107, c108, c109, c110, c111, c112, c113, c114, c115, c116, c117, c118, c119, c120, c121, c122, c123, c124, c125, c126, c127, c128, c129, c130, c131, c132, c133, c134, c135, c136, c137, c138, c139, c140, c141, c142, c143, c144, c145, c146, c147, c148, c149, c150, c151, c152, c153, c154, c155, c156, c157, c158, c159, c160, c161, c162, c163, c164, c165, c166, c167, c168, c169, c170, c171, c172, c173, c174, c175, c176, c177, c178, c179, c180, c181, c182, c183, c184, c185, c186, c187, c188, c189, c190, c191, c192, c193, c194, c195, c196, c197, c198, c199, c200, c201, c202, c203, c204, c205, c206, c207, c208, c209, c210, c211, c212, c213, c214, c215, c216, c217, c218, c219, c220, c221, c222, c223, c224, c225, c226, c227, c228, c229, c230, c231, c232, c233, c234, c235, c236, c237, c238, c239, c240, c241, c242, c243, c244, c245, c246, c247, c248, c249, c250, c251, c252, c253, c254, c255, c256, c257, c258, c259, c260, c261, c262, c263, c264, c265, c266, c267, c268, c269, c270, c271, c272, c273, c274, c275, c276, c277, c278, c279, c280, c281, c282, c283, c284, c285, c286, c287, c288, c289, c290, c291, c292, c293, c294, c295, c296, c297, c298, c299, c300, c301, c302, c303, c304, c305, c306, c307, c308, c309, c310, c311, c312, c313, c314, c315, c316, c317, c318, c319, c320, c321, c322, c323, c324, c325, c326, c327, c328, c329, c330, c331, c332, c333, c334, c335, c336, c337, c338, c339, c340, c341, c342, c343, c344, c345, c346, c347, c348, c349, c350, c351, c352, c353, c354, c355, c356, c357, c358, c359, c360, c361, c362, c363, c364, c365, c366, c367, c368, c369, c370, c371, c372, c373, c374, c375, c376, c377, c378, c379, c380, c381, c382, c383, c384, c385, c386, c387, c388, c389, c390, c391, c392, c393, c394, c395, c396, c397, c398], []⟩ W := by
  conv => arg 2; whnf
  obtain ⟨ct, hct, hsum⟩ := said_count HWL.out.2 HWL.out.1
  have hTz := said_small HWL.out.2 HWL.out.1
  rw [← HT.out] at hct hTz
  have HCT := Lib.hid hct
  have HSM := Lib.hid hsum
  have HCL := Lib.hid (show ct.length = 26 from hsum.1)
  have HTZ := Lib.hid (show T.size ≤ 100 by omega)
  have t26 : ((ct.length : Int) != 26) = false := by rw [hsum.1]; rfl
  clear hct hsum hTz
  go_upto_region 44 with (first
    | (go_at_call 24
       with_reducible refine (implCountD T ct HCT.out _ (HG.out _ B400.out)).mono ?_
       rintro e w401 ⟨Ac, cc, rfl, hC, hb⟩
       have B401 := Lib.hid (below_step B400.out hb)
       have LS401 := Lib.hid (Kd.C_below LS400.out hb)
       have CI401 := Lib.hid hC.1
       have HCI := Lib.hid hC.2
       clear hb B400 LS400 hC)
    | (go_at_call 25
       with_reducible refine (specCountD T ct HCT.out HTZ.out _).mono ?_
       rintro e w402 ⟨Ak, ck, rfl, hC, hb⟩
       have B402 := Lib.hid (below_step B401.out hb)
       have LS402 := Lib.hid (Kd.C_below LS401.out hb)
       have CI402 := Lib.hid (Kd.C_below CI401.out hb)
       have CK402 := Lib.hid hC.1
       have HCK := Lib.hid hC.2
       clear hb B401 LS401 CI401 hC)
    | (go_at_call 26
       with_reducible refine (sameD ct HCL.out Ac Ak cc ck _ CI402.out HCI.out CK402.out HCK.out).mono ?_
       rintro e w403 ⟨rfl, hb⟩
       have B403 := Lib.hid (below_step B402.out hb)
       have LS403 := Lib.hid (Kd.C_below LS402.out hb)
       have CI403 := Lib.hid (Kd.C_below CI402.out hb)
       have CK403 := Lib.hid (Kd.C_below CK402.out hb)
       clear hb B402 LS402 CI402 CK402))
  clear t26
  obtain ⟨wz, hwz⟩ : ∃ W, W = w403 := ⟨_, rfl⟩
  rw [← hwz]
  have BZ := Lib.hid (show Below w.heap.size w wz by rw [hwz]; exact B403.out)
  have CZ := Lib.hid (show Kd.C (Kd.int .i64) wz Ak ct.length ct by rw [hwz]; exact CK403.out)
  have SZ := Lib.hid (show Kd.C Kd.string wz As wl.length wl by rw [hwz]; exact LS403.out)
  clear hwz B403 LS403 CK403 CI403
  obtain ⟨tot, htot⟩ : ∃ n : Nat, n = (wl.map ByteArray.size).sum := ⟨_, rfl⟩
  have HTOT := Lib.hid (show tot ≤ 30 by have := said_total wl HWL.out.2; have := HWL.out.1; omega)
  have HS1 := Lib.hid (show ct.sum = (tot : Int) by rw [htot]; exact HSM.out.2.2)
  have HS2 := Lib.hid (show (lensI wl).sum = (tot : Int) by rw [htot]; exact lensI_sum wl)
  clear htot
  go_wp2
  go_loopw [41, 42] (fun s i wr => ∃ (k : Nat) (sk : Int), k ≤ 26 ∧ i = .int .i64 k ∧ s = .int .i64 sk ∧ RowKit.Hid (sk = (ct.take k).sum) ∧ wz = wr) (fun _ i _ => 26 - (intOf i).toNat)
  case atStart => exact ⟨0, 0, by decide, rfl, rfl, Lib.hid rfl, rfl⟩
  case round =>
    obtain ⟨k, sk, hk, rfl, rfl, HK, rfl⟩ := hrel
    by_cases hk2 : k < 26
    · have hk3 : (k : Int) < 26 := by omega
      have hkl : k < ct.length := by rw [HSM.out.1]; exact hk2
      have hkI : (k : Int) < (ct.length : Int) := by omega
      obtain ⟨ad, ea, px⟩ := Kd.at_int CZ.out (k : Int) (by omega) hkI
      rw [Pure.rd_get ct k hkl, Int.toNat_natCast] at px
      have hb0 := sum_take_le ct (k + 1) (fun x hx => (HSM.out.2.1 x hx).1)
      have hst := sum_take_step ct k hkl
      obtain ⟨x, hx⟩ : ∃ x, x = ct[k] := ⟨_, rfl⟩
      rw [← hx] at px hst
      obtain ⟨s2, hs2⟩ : ∃ s2, s2 = (ct.take (k + 1)).sum := ⟨_, rfl⟩
      have vx : wrap64 (sk + x) = s2 := by
        have h1 := HS1.out
        have h2 := HTOT.out
        have h3 := HK.out
        rw [wrap_id (by omega) (by omega), hs2, hst, h3]
      have HK2 := Lib.hid hs2
      subst ea
      clear hb0 hst hx hs2 hkl
      go_wp2
      go_roundw
      case measure => simp only [intOf]; omega
      case rel => exact ⟨k + 1, s2, by omega, by go_num, by rw [vx], HK2, trivial⟩
    · have hk3 : ¬ (k : Int) < 26 := by omega
      have hst : sk = (tot : Int) := by rw [HK.out, List.take_of_length_le (by rw [HSM.out.1]; omega)]; exact HS1.out
      subst hst
      clear HK hk2 CZ
      have hw6 : wl.length ≤ 6 := HWL.out.1
      go_wp2
      go_loopw [43, 44] (fun s i wq => ∃ (k : Nat) (sk : Int), k ≤ wl.length ∧ i = .int .i64 k ∧ s = .int .i64 sk ∧ RowKit.Hid (sk = ((lensI wl).take k).sum) ∧ wz = wq) (fun _ i _ => wl.length - (intOf i).toNat)
      case atStart => exact ⟨0, 0, Nat.zero_le _, rfl, rfl, Lib.hid rfl, rfl⟩
      case round =>
        obtain ⟨j, sj, hj, rfl, rfl, HJ, rfl⟩ := hrel
        by_cases hj2 : j < wl.length
        · have hj3 : (j : Int) < (wl.length : Int) := by omega
          have hjl : j < (lensI wl).length := by rw [lensI_len]; exact hj2
          obtain ⟨ad, ea, px⟩ := Kd.at_string SZ.out (j : Int) (by omega) hj3
          rw [Pure.rdOf_get _ wl j hj2, Int.toNat_natCast] at px
          have hb0 := sum_take_le (lensI wl) (j + 1) (lensI_pos wl)
          have hst := sum_take_step (lensI wl) j hjl
          have hge : (lensI wl)[j] = ((wl[j]).size : Int) := by simp [lensI]
          obtain ⟨x, hx⟩ : ∃ x, x = wl[j] := ⟨_, rfl⟩
          rw [← hx] at px hge
          rw [hge] at hst
          obtain ⟨s2, hs2⟩ : ∃ s2, s2 = ((lensI wl).take (j + 1)).sum := ⟨_, rfl⟩
          have vx : wrap64 (sj + (x.size : Int)) = s2 := by
            have h1 := HS2.out
            have h2 := HTOT.out
            have h3 := HJ.out
            rw [wrap_id (by omega) (by omega), hs2, hst, h3]
          have vy : wrap64 (x.size : Int) = (x.size : Int) := by
            have h1 := HS2.out
            have h2 := HTOT.out
            have h4 := sum_take_le (lensI wl) j (lensI_pos wl)
            exact wrap_id (by omega) (by omega)
          have HJ2 := Lib.hid hs2
          subst ea
          clear hb0 hst hx hs2 hjl hge
          go_wp2
          go_roundw
          case measure => simp only [intOf]; omega
          case rel => exact ⟨j + 1, s2, by omega, by go_num, by rw [vx], HJ2, trivial⟩
        · have hj3 : ¬ (j : Int) < (wl.length : Int) := by omega
          have hst : sj = (tot : Int) := by rw [HJ.out, List.take_of_length_le (by rw [lensI_len]; omega)]; exact HS2.out
          subst hst
          clear HJ hj2
          have tt : ((tot : Int) == (tot : Int)) = true := by simp
          go_wp2
          go_ret
          exact ⟨rfl, BZ.out⟩
end Go.Proofs.YtimkkjkgbbfgbaaGreatDoor.Q
