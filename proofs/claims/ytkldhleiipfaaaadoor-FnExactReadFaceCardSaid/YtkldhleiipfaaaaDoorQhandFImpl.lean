/- impl.FaceText and spec.FaceText, by hand. -/
import Derived.Test.YtkldhleiipfaaaaDoorQhandFTold
import Derived.Test.YtkldhleiipfaaaaDoorQimpldecimal
namespace Go.Proofs.YtkldhleiipfaaaaDoor.Q
open Go.RowKit Go.Proofs.YtkldhleiipfaaaaDoorW.PrintWords Go.Proofs.YtkldhleiipfaaaaDoorW.PrintLast Go.Proofs.YtkldhleiipfaaaaDoorW.PrintMore
open Go.Proofs.YtkldhleiipfaaaaDoor.Pure
set_option linter.unusedVariables false
set_option linter.unusedSimpArgs false

def faceTextR (ws : List Int) (sp gp : Int) (l : List S48) : ByteArray := if validB ws sp gp l = true then faceT ws sp gp l else ⟨#[]⟩
set_option maxHeartbeats 4000000 in
theorem specFaceTextC (ws : List Int) (hx : ws.length = 26) (sp gp : Int) (A : Option Addr) (c : Nat) (l : List S48) (w : World) (hr : Kd.C k48 w A l.length l) (hc : l.length ≤ c) (hl : l.length ≤ 1048576) (hf : Fit ws sp gp l) :
    Calls Tryd.prog 6 #[.agg (FV ws sp gp (.slice A l.length c))] w fun e w' => e = .returned (.string (faceTextR ws sp gp l)) ∧ Below w.heap.size w w' := by
  go_enter Tryd.func6, Tryd.ntmps6
  have HX := Lib.hid hx
  have HR := Lib.hid hr
  have HC := Lib.hid hc
  have HL := Lib.hid hl
  have HF := Lib.hid hf
  clear hx hr hc hl hf
  have H1 := Lib.hid (heap_alloc_new w (.cells (FV ws sp gp (.slice A l.length c)) 31))
  have HB := Lib.hid (below_alloc (Below.refl w.heap.size w) (.cells (FV ws sp gp (.slice A l.length c)) 31))
  unfold faceTextR
  cases hv : validB ws sp gp l with
  | false =>
    have EV := Lib.hid hv
    clear hv
    go_wp2_with (first
      | (go_at_call 15
         with_reducible refine (l01FaceC ws HX.out sp gp A c l w.heap.size _ H1.out (Kd.C_below HR.out HB.out) HC.out HL.out HF.out).mono ?_
         rintro e w1 ⟨rfl, hb⟩
         rw [EV.out]
         have B1 := Lib.hid (below_step HB.out hb)
         clear hb))
    go_ret
    exact ⟨rfl, B1.out⟩
  | true =>
    have EV := Lib.hid hv
    clear hv
    go_wp2_with (first
      | (go_at_call 15
         with_reducible refine (l01FaceC ws HX.out sp gp A c l w.heap.size _ H1.out (Kd.C_below HR.out HB.out) HC.out HL.out HF.out).mono ?_
         rintro e w1 ⟨rfl, hb⟩
         rw [EV.out]
         have B1 := Lib.hid (below_step HB.out hb)
         have K1 := Lib.hid ((hb.block _ (blk_lt H1.out)).trans H1.out)
         clear hb)
      | (go_at_call 16
         with_reducible refine (toldC ws HX.out sp gp A c l w.heap.size _ K1.out (Kd.C_below HR.out B1.out) HC.out EV.out).mono ?_
         rintro e w2 ⟨rfl, hb⟩
         have B2 := Lib.hid (below_step B1.out hb)
         clear hb))
    go_ret
    exact ⟨rfl, B2.out⟩
theorem row8 {W : World} {g : Nat} {t : TypeId} {ws : List Int} {sp gp : Int} {v : Value} (h : W.heap[g]? = some (.cells (FV ws sp gp v) t (0, 0))) (hx : ws.length = 26) : Kd.C (Kd.int .i8) W (some ⟨g, 0, none⟩) 26 ws := by
  refine ⟨hx, by decide, fun _ => ⟨⟨g, 0, none⟩, rfl, fun j p hj => ⟨[.int .i8 p], rfl, rfl, fun i u hi => ?_⟩⟩⟩
  obtain ⟨hlt, rfl⟩ := List.getElem?_eq_some_iff.1 hj
  cases i with
  | zero =>
    obtain rfl : Value.int .i8 ws[j] = u := by simpa using hi
    show W.cell? ((⟨g, 0, none⟩ : Addr).add (j * 1 + 0)) = _
    rw [Nat.mul_one, Nat.add_zero, addr_at, blk_cell h j, FV_lt ws hx _ _ _ j (by omega), Pure.rd_get ws j hlt]
  | succ i => simp at hi
theorem joinedC (ws : List Int) (hx : ws.length = 26) (sp gp : Int) (v : Value) (t : TypeId) (g : Nat) (W : World) (hG : GlobP W) (h : W.heap[g]? = some (.cells (FV ws sp gp v) t (0, 0))) (hv : ∀ x ∈ ws, 1 ≤ x ∧ x ≤ 40) :
    Calls Tryd.prog 21 #[.slice (some ⟨g, 0, none⟩) 26 26] W fun e w' => e = .returned (.string (joinB (ws.map itoaB) blankT)) ∧ Below W.heap.size W w' := by
  have h1 := row8 h hx
  have := impl_joined_int8.calls 30 (some ⟨g, 0, none⟩) 26 ws (joinB (ws.map itoaB) blankT) W hG (by rw [hx]; exact h1) (by omega) (joined_val ws hx (fun x hm => by have := hv x hm; omega))
  rw [hx] at this
  exact this
theorem decC (n : Int) (h0 : -1000 ≤ n) (h1 : n ≤ 1000) (W : World) (hG : GlobP W) : Calls Tryd.prog 20 #[.int .i64 n] W fun e w' => e = .returned (.string (itoaB n)) ∧ Below W.heap.size W w' := impl_decimal.calls n (itoaB n) W hG (dec_val n (by omega) (by omega))
theorem joinC (A : Option Addr) (c : Nat) (rl : List ByteArray) (W : World) (hr : Kd.C Kd.string W A rl.length rl) (hc : rl.length ≤ c) (hl : rl.length ≤ 12) (hs : ∀ x ∈ rl, x.size ≤ 100) : Calls Tryd.prog 22 #[.slice A rl.length c, .string ⟨#[32]⟩] W fun e w' => e = .returned (.string (joinB rl blankT)) ∧ Below W.heap.size W w' :=
  strings_Join.callsN A c rl ⟨#[32]⟩ W hr hc ⟨by omega, fun x hx => by have := hs x hx; omega⟩ (by decide)
set_option maxHeartbeats 8000000 in
set_option maxRecDepth 100000 in
theorem implFaceTextC (ws : List Int) (hx : ws.length = 26) (sp gp : Int) (A : Option Addr) (c : Nat) (l : List S48) (w : World) (hG : GlobP w) (hr : Kd.C k48 w A l.length l) (hc : l.length ≤ c) (hl : l.length ≤ 1048576) (hf : Fit ws sp gp l) :
    Calls Tryd.prog 8 #[.agg (FV ws sp gp (.slice A l.length c))] w fun e w' => e = .returned (.string (faceTextR ws sp gp l)) ∧ Below w.heap.size w w' := by
  go_enter Tryd.func8, Tryd.ntmps8
  obtain ⟨M, hM⟩ : ∃ M : Nat, M = 29 := ⟨_, rfl⟩
  obtain ⟨U, hU⟩ : ∃ U : TypeId, U = 31 := ⟨_, rfl⟩
  have huU := fun w => (show (underlying U).run Tryd.prog w = (underlying 31).run Tryd.prog w by rw [hU]).trans (run_underlying (P := Tryd.prog) (w := w) Tryd.underlying31)
  have hzU : ∀ w, (sizeOf U).run Tryd.prog w = .ok M w := fun w => by rw [hM, hU]; exact Tryd.sizeOf31 w
  have haU : ∀ w, (isAgg U).run Tryd.prog w = .ok true w := fun w => by rw [hU]; exact Tryd.isAgg31 w
  have hvU : ∀ w, (zeroValue U).run Tryd.prog w = .ok (.agg ZF) w := fun w => by rw [hU]; exact Tryd.zeroValue31 w
  have e2 : ∀ x, Op.load 31 x = Op.load U x := fun x => by rw [hU]
  have e3 : ∀ x y, Op.store 31 x y = Op.store U x y := fun x y => by rw [hU]
  have e4 : Op.alloc 31 = Op.alloc U := by rw [hU]
  have e5 : ∀ x, Op.build 31 x = Op.build U x := fun x => by rw [hU]
  simp only [e2, e3, e4, e5]
  clear e2 e3 e4 e5
  have hFa : ∀ g v, (FV ws sp g v).size = M := fun g v => by rw [FV_size ws hx, hM]
  have hFz : ZF.size = M := by rw [hM]; rfl
  have HM := Lib.hid hM
  have HG := Lib.hid hG
  have HX := Lib.hid hx
  have HR := Lib.hid hr
  have HC := Lib.hid hc
  have HL := Lib.hid hl
  have HF := Lib.hid hf
  clear hG hM hU hx hr hc hl hf
  have H1 := Lib.hid (heap_alloc_new w (.cells (FV ws sp gp (.slice A l.length c)) 31))
  have HB := Lib.hid (below_alloc (Below.refl w.heap.size w) (.cells (FV ws sp gp (.slice A l.length c)) 31))
  have q0 := loadF H1.out HX.out HM.out
  unfold faceTextR
  cases hv : validB ws sp gp l with
  | false =>
    have EV := Lib.hid hv
    clear hv
    go_wp2_with (first
      | (go_at_call 19
         with_reducible refine (implValidC ws HX.out sp gp A c l _ (Kd.C_below HR.out HB.out) HC.out HL.out HF.out false EV.out).mono ?_
         rintro e w1 ⟨rfl, hb⟩
         have B1 := Lib.hid (below_step HB.out hb)
         clear hb))
    go_ret
    exact ⟨rfl, B1.out⟩
  | true =>
    obtain ⟨vw, vs, vg, vl, vp⟩ := valid_facts HX.out hv
    have EV := Lib.hid hv
    have HVW := Lib.hid vw
    have HVS := Lib.hid vs
    have HVG := Lib.hid vg
    have HVL := Lib.hid vl
    have HVP := Lib.hid vp
    clear hv vw vs vg vl vp
    go_wp2_with (first
      | (go_at_call 19
         with_reducible refine (implValidC ws HX.out sp gp A c l _ (Kd.C_below HR.out HB.out) HC.out HL.out HF.out true EV.out).mono ?_
         rintro e w1 ⟨rfl, hb⟩
         have B1 := Lib.hid (below_step HB.out hb)
         have K1 := Lib.hid ((hb.block _ (blk_lt H1.out)).trans H1.out)
         have S1 := Lib.hid (blk_lt K1.out)
         clear hb q0)
      | ((with_reducible refine gate_dst (N := 10) rfl ?_); refine Kd.R_lit Kd.string _ 9 ?hg (N := 10) ?hd (xs := ([] : List ByteArray)) (inner := []) (ok := fun _ => True) (okp := fun _ => True) ?hr ?hp (fun _ hk => hk) trivial (Below.refl _ _) (Nat.le_refl _) (by simp) ?_; (case hd => rfl); (case hg => rfl); (case hr => first | (go_simp; done) | (go_simp; rfl)); (case hp => exact (Reps.none _ _)); intro v0 w7 ho8 hb hg_ hnew_; clear hg_ hnew_
         have R7 := Lib.hid (Kd.R_lower (ok := fun k => w.heap.size < k) (Kd.R_mono (Kd.R_bound ho8) (fun k hk => Nat.lt_of_lt_of_le S1.out hk.2.1)) (show w.heap.size ≤ w1.heap.size from B1.out.size))
         have B7 := Lib.hid (below_step B1.out hb)
         have K7 := Lib.hid ((hb.block _ (blk_lt K1.out)).trans K1.out)
         have c28 := (blk_cell K7.out 28).trans (FV_28 ws HX.out _ _ _)
         clear ho8 hb))
    clear c28 K1
    go_loopw [3, 14] (fun v i wr => ∃ (j : Nat), j ≤ l.length ∧ i = .int .i64 j ∧ RowKit.Hid (Kd.R Kd.string 9 wr w.heap.size (fun k => w.heap.size < k) v ((l.take j).map prT)) ∧ RowKit.Hid (wr.heap[w.heap.size]? = some (.cells (FV ws sp gp (.slice A l.length c)) 31 (0, 0))) ∧ RowKit.Hid (Below w.heap.size w wr)) (fun _ i _ => l.length - (intOf i).toNat)
    case atStart => exact ⟨0, Nat.zero_le _, rfl, R7, K7, B7⟩
    case round =>
      clear R7 K7 B7 B1 S1
      obtain ⟨j, hj, rfl, RV, KV, HW⟩ := hrel
      have hbl : (l.length : Int) ≤ 12 := by have := HVL.out; omega
      by_cases hlj : j < l.length
      · have hlj2 : (j : Int) < (l.length : Int) := by omega
        obtain ⟨ad, rfl, hx0, hx1, hx2⟩ := at_T48 (Kd.C_below HR.out HW.out) (j : Int) (by omega) (by omega)
        simp only [Int.toNat_natCast] at hx0 hx1 hx2
        have hv5 := HVP.out _ (List.getElem_mem hlj)
        have EX := Lib.hid (rd46_get l j hlj)
        rw [EX.out] at hx0 hx1 hx2
        obtain ⟨x, hxx⟩ : ∃ x, x = l[j] := ⟨_, rfl⟩
        rw [← hxx] at hx0 hx1 hx2 hv5
        have HXX := Lib.hid hxx
        clear EX hxx
        obtain ⟨hv1, hv2, hv3⟩ := hv5
        have HB2 := Lib.hid (below_alloc (Below.refl wr.heap.size wr) (.cells #[.int .u8 x.f0, .int .u8 x.f1, .int .i8 x.f2] 48))
        have HY := Lib.hid (heap_alloc_new wr (.cells #[.int .u8 x.f0, .int .u8 x.f1, .int .i8 x.f2] 48))
        have d2 : (wr.alloc (.cells #[.int .u8 x.f0, .int .u8 x.f1, .int .i8 x.f2] 48)).cell? ⟨wr.heap.size, 2, none⟩ = some (.int .i8 x.f2) := (blk_cell HY.out 2).trans rfl
        have hx5 : IntKind.i64.wrap x.f2 = x.f2 := IntWalk.i64_in _ (by omega)
        have HN0 := Lib.hid (show -1000 ≤ x.f2 ∧ x.f2 ≤ 1000 by omega)
        obtain ⟨ib, hib⟩ : ∃ ib, ib = itoaB x.f2 := ⟨_, rfl⟩
        have zi : ib.size ≤ 3 := by
          by_cases hneg : x.f2 < 0
          · rw [hib, byT_neg hneg (by omega)]; exact byT_size hv1 hv2
          · rw [hib]; have := itoaB_small (n := x.f2) (by omega) (by omega); omega
        have HD := Lib.hid (fun W (hW : GlobP W) => show Calls Tryd.prog 20 #[.int .i64 x.f2] W fun e w' => e = .returned (.string ib) ∧ Below W.heap.size W w' from by rw [hib]; exact decC x.f2 HN0.out.1 HN0.out.2 W hW)
        obtain ⟨sb, hsb⟩ : ∃ sb, sb = strOfNums [x.f0, x.f1] := ⟨_, rfl⟩
        have zb : sb.size ≤ 2 := by rw [hsb]; exact Nat.le_refl _
        have HSB := Lib.hid hsb
        have hpl : (⟨#[43]⟩ : ByteArray).size = 1 := rfl
        have HTK := Lib.hid (show (l.take j).map prT ++ [sb ++ byT x.f2] = (l.take (j + 1)).map prT by rw [List.take_succ_eq_append_getElem hlj, List.map_append, ← HXX.out, hsb]; rfl)
        have HTL := Lib.hid (show ((l.take j).map prT).length ≤ 12 by simp; omega)
        have HIB := Lib.hid hib
        clear hsb hib
        obtain ⟨rj, hrj⟩ : ∃ rj, rj = (l.take j).map prT := ⟨_, rfl⟩
        rw [← hrj] at HTK HTL RV
        clear hrj
        obtain ⟨B, d, rfl⟩ := Kd.R_slice RV.out
        have z1a : decide (1 + ib.size ≤ 9223372036854775807) = true := decide_eq_true (by omega)
        have z1b : ¬ (9223372036854775807 < 1 + ib.size) := (by omega)
        have z2a : decide ((⟨#[43]⟩ : ByteArray).size + ib.size ≤ 9223372036854775807) = true := decide_eq_true (by rw [hpl]; omega)
        have z2b : ¬ (9223372036854775807 < (⟨#[43]⟩ : ByteArray).size + ib.size) := (by rw [hpl]; omega)
        have z3a : decide (sb.size + (1 + ib.size) ≤ 9223372036854775807) = true := decide_eq_true (by omega)
        have z3b : ¬ (9223372036854775807 < sb.size + (1 + ib.size)) := (by omega)
        have z4a : decide (sb.size + ((⟨#[43]⟩ : ByteArray) ++ ib).size ≤ 9223372036854775807) = true := decide_eq_true (by rw [ByteArray.size_append, hpl]; omega)
        have z4b : ¬ (9223372036854775807 < sb.size + ((⟨#[43]⟩ : ByteArray) ++ ib).size) := (by rw [ByteArray.size_append, hpl]; omega)
        have z5a : decide (sb.size + ib.size ≤ 9223372036854775807) = true := decide_eq_true (by omega)
        have z5b : ¬ (9223372036854775807 < sb.size + ib.size) := (by omega)
        by_cases hpos : 0 < x.f2
        · have s1 : decide (x.f2 > 0) = true := decide_eq_true (by omega)
          have s2 : decide ((0 : Int) < x.f2) = true := decide_eq_true (by omega)
          have EB := Lib.hid (show (⟨#[43]⟩ : ByteArray) ++ ib = byT x.f2 by rw [HIB.out]; exact byT_pos hpos)
          have HPOS := Lib.hid hpos
          clear hpos hv1 hv2 hv3
          go_wp2_with (first
            | (go_at_call 20
               with_reducible refine (HD.out _ (HG.out.step (below_step HW.out HB2.out))).mono ?_
               rintro e w3 ⟨rfl, hb⟩
               have B3 := Lib.hid (below_step (below_step HW.out HB2.out) hb)
               have Y3 := Lib.hid ((hb.block _ (blk_lt HY.out)).trans HY.out)
               have e2 : w3.cell? ⟨wr.heap.size, 2, none⟩ = some (.int .i8 x.f2) := (blk_cell Y3.out 2).trans rfl
               have e0 : w3.cell? ⟨wr.heap.size, 0, none⟩ = some (.int .u8 x.f0) := (blk_cell Y3.out 0).trans rfl
               have e1 : w3.cell? ⟨wr.heap.size, 1, none⟩ = some (.int .u8 x.f1) := (blk_cell Y3.out 1).trans rfl
               have R3 := Lib.hid (Kd.R_below (Kd.R_below RV.out HB2.out) hb)
               have K3 := Lib.hid ((hb.block w.heap.size (by have := blk_lt KV.out; simp; omega)).trans ((HB2.out.block _ (blk_lt KV.out)).trans KV.out))
               clear hb d2)
            | ((with_reducible refine gate_dst (N := 32) rfl ?_); refine Kd.R_lit (Kd.int .u8) _ 5 ?hg (N := 32) ?hd (xs := ([x.f0, x.f1] : List Int)) (inner := [.int .u8 x.f0, .int .u8 x.f1]) (ok := fun _ => True) (okp := fun _ => True) ?hr ?hp (fun _ hk => hk) trivial (Below.refl _ _) (Nat.le_refl _) (by simp) ?_; (case hd => rfl); (case hg => rfl); (case hr => first | (go_simp; done) | (go_simp; rfl)); (case hp => exact (Reps.one (show Kd.M (Kd.int .u8) _ _ _ x.f0 [.int .u8 x.f0] from rfl) (Reps.one (show Kd.M (Kd.int .u8) _ _ _ x.f1 [.int .u8 x.f1] from rfl) (Reps.none _ _)))); intro v5 w5 ho8 hb hg_ hnew_; clear hg_ hnew_
               have hcv := own_string (P := Tryd.prog) Tryd.underlying50 Tryd.underlying5 Tryd.underlying9 (Kd.own_of_R ho8)
               rw [← HSB.out] at hcv
               have B5 := Lib.hid (below_step B3.out hb)
               have R5 := Lib.hid (Kd.R_below R3.out hb)
               have K5 := Lib.hid ((hb.block _ (blk_lt K3.out)).trans K3.out)
               clear ho8 hb e0 e1 e2)
            | ((with_reducible refine gate_builtin (b := .append) (xs := #[.tmp 27, .tmp 36]) rfl ?_); at_builtin; refine Kd.R_append Kd.string (w0 := w) w.heap.size rfl (.tmp 27) (.tmp 36) 46 9 (.string ⟨#[]⟩) 16 rfl Tryd.underlying46 info9 rfl (by decide) (by omega) (.slice B rj.length d) rj (sb ++ ((⟨#[43]⟩ : ByteArray) ++ ib)) [.string (sb ++ ((⟨#[43]⟩ : ByteArray) ++ ib))] (fun k => w.heap.size < k) (fun _ => False) ?hS ?hX ?aP (fun _ hk => hk.elim) ?aF ?aO ?aB ?aS ?aL ?_; (case hS => rfl); (case hX => first | rfl | (go_simp; done) | (simp [World.alloc]; done) | (go_simp; rfl)); (case aP => exact rfl); (case aF => exact fun k hk => Nat.lt_of_lt_of_le (blk_lt K5.out) hk); (case aO => exact R5.out); (case aB => exact B5.out); (case aS => exact B5.out.size); (case aL => have := HTL.out; omega); intro v6 w6 ho hb hg hat
               have B6 := Lib.hid hb
               have R6 := Lib.hid ho
               have K6 := Lib.hid ((hg.block w.heap.size (blk_lt K5.out) (fun he => by have := R5.out.1 w.heap.size he.symm; exact Nat.lt_irrefl _ this)).trans K5.out)
               clear ho hb hg hat hcv))
          go_roundw
          case measure => simp only [intOf]; omega
          case rel => exact ⟨j + 1, by omega, by go_num, Lib.hid (by rw [← HTK.out, ← EB.out]; exact R6.out), K6, B6⟩
        · have s1 : decide (x.f2 > 0) = false := decide_eq_false (by omega)
          have s2 : decide ((0 : Int) < x.f2) = false := decide_eq_false (by omega)
          have s3 : ¬ x.f2 > 0 := hpos
          have EB := Lib.hid (show ib = byT x.f2 by rw [HIB.out]; exact byT_neg (by omega) (by omega))
          clear hpos hv1 hv2 hv3
          go_wp2_with (first
            | (go_at_call 20
               with_reducible refine (HD.out _ (HG.out.step (below_step HW.out HB2.out))).mono ?_
               rintro e w3 ⟨rfl, hb⟩
               have B3 := Lib.hid (below_step (below_step HW.out HB2.out) hb)
               have Y3 := Lib.hid ((hb.block _ (blk_lt HY.out)).trans HY.out)
               have e2 : w3.cell? ⟨wr.heap.size, 2, none⟩ = some (.int .i8 x.f2) := (blk_cell Y3.out 2).trans rfl
               have e0 : w3.cell? ⟨wr.heap.size, 0, none⟩ = some (.int .u8 x.f0) := (blk_cell Y3.out 0).trans rfl
               have e1 : w3.cell? ⟨wr.heap.size, 1, none⟩ = some (.int .u8 x.f1) := (blk_cell Y3.out 1).trans rfl
               have R3 := Lib.hid (Kd.R_below (Kd.R_below RV.out HB2.out) hb)
               have K3 := Lib.hid ((hb.block w.heap.size (by have := blk_lt KV.out; simp; omega)).trans ((HB2.out.block _ (blk_lt KV.out)).trans KV.out))
               clear hb d2)
            | ((with_reducible refine gate_dst (N := 32) rfl ?_); refine Kd.R_lit (Kd.int .u8) _ 5 ?hg (N := 32) ?hd (xs := ([x.f0, x.f1] : List Int)) (inner := [.int .u8 x.f0, .int .u8 x.f1]) (ok := fun _ => True) (okp := fun _ => True) ?hr ?hp (fun _ hk => hk) trivial (Below.refl _ _) (Nat.le_refl _) (by simp) ?_; (case hd => rfl); (case hg => rfl); (case hr => first | (go_simp; done) | (go_simp; rfl)); (case hp => exact (Reps.one (show Kd.M (Kd.int .u8) _ _ _ x.f0 [.int .u8 x.f0] from rfl) (Reps.one (show Kd.M (Kd.int .u8) _ _ _ x.f1 [.int .u8 x.f1] from rfl) (Reps.none _ _)))); intro v5 w5 ho8 hb hg_ hnew_; clear hg_ hnew_
               have hcv := own_string (P := Tryd.prog) Tryd.underlying50 Tryd.underlying5 Tryd.underlying9 (Kd.own_of_R ho8)
               rw [← HSB.out] at hcv
               have B5 := Lib.hid (below_step B3.out hb)
               have R5 := Lib.hid (Kd.R_below R3.out hb)
               have K5 := Lib.hid ((hb.block _ (blk_lt K3.out)).trans K3.out)
               clear ho8 hb e0 e1 e2)
            | ((with_reducible refine gate_builtin (b := .append) (xs := #[.tmp 27, .tmp 36]) rfl ?_); at_builtin; refine Kd.R_append Kd.string (w0 := w) w.heap.size rfl (.tmp 27) (.tmp 36) 46 9 (.string ⟨#[]⟩) 16 rfl Tryd.underlying46 info9 rfl (by decide) (by omega) (.slice B rj.length d) rj (sb ++ ib) [.string (sb ++ ib)] (fun k => w.heap.size < k) (fun _ => False) ?hS ?hX ?aP (fun _ hk => hk.elim) ?aF ?aO ?aB ?aS ?aL ?_; (case hS => rfl); (case hX => first | rfl | (go_simp; done) | (simp [World.alloc]; done) | (go_simp; rfl)); (case aP => exact rfl); (case aF => exact fun k hk => Nat.lt_of_lt_of_le (blk_lt K5.out) hk); (case aO => exact R5.out); (case aB => exact B5.out); (case aS => exact B5.out.size); (case aL => have := HTL.out; omega); intro v6 w6 ho hb hg hat
               have B6 := Lib.hid hb
               have R6 := Lib.hid ho
               have K6 := Lib.hid ((hg.block w.heap.size (blk_lt K5.out) (fun he => by have := R5.out.1 w.heap.size he.symm; exact Nat.lt_irrefl _ this)).trans K5.out)
               clear ho hb hg hat hcv))
          go_roundw
          case measure => simp only [intOf]; omega
          case rel => exact ⟨j + 1, by omega, by go_num, Lib.hid (by rw [← HTK.out, ← EB.out]; exact R6.out), K6, B6⟩
      · have hlj2 : ¬ (j : Int) < (l.length : Int) := by omega
        have RW0 := RV.out
        rw [List.take_of_length_le (show l.length ≤ j by omega)] at RW0
        have RW := Lib.hid RW0
        clear RV RW0
        obtain ⟨rl, hrl⟩ : ∃ rl, rl = l.map prT := ⟨_, rfl⟩
        rw [← hrl] at RW
        have HRLl := Lib.hid (show rl.length ≤ 12 by rw [hrl, List.length_map]; exact HVL.out)
        have HRLs := Lib.hid (show ∀ y ∈ rl, y.size ≤ 5 from fun y hy => by
          rw [hrl] at hy
          obtain ⟨z, hz, rfl⟩ := List.mem_map.1 hy
          unfold prT
          rw [ByteArray.size_append, two_sz]
          have := byT_size (HVP.out z hz).1 (HVP.out z hz).2.1
          omega)
        have HRLE := Lib.hid hrl
        clear hrl
        obtain ⟨B, d, rfl⟩ := Kd.R_slice RW.out
        have c26 := (blk_cell KV.out 26).trans (FV_26 ws HX.out _ _ _)
        have c27 := (blk_cell KV.out 27).trans (FV_27 ws HX.out _ _ _)
        have hsp := HVS.out
        have hgp := HVG.out
        have hw1 : IntKind.i64.wrap sp = sp := IntWalk.i64_in _ (by omega)
        have hw2 : IntKind.i64.wrap gp = gp := IntWalk.i64_in _ (by omega)
        have HJW := Lib.hid (fun W (hW : GlobP W) hK => joinedC ws HX.out sp gp (.slice A l.length c) 31 w.heap.size W hW hK HVW.out)
        have HSW := Lib.hid (fun W (hW : GlobP W) => decC sp (by omega) (by omega) W hW)
        have HGW := Lib.hid (fun W (hW : GlobP W) => decC gp (by omega) (by omega) W hW)
        have HTW := Lib.hid (fun W hR => joinC B d rl W hR (Kd.R_reads' RW.out).2.1 HRLl.out (fun y hy => by have := HRLs.out y hy; omega))
        obtain ⟨jb, hjb⟩ : ∃ jb, jb = joinB (ws.map itoaB) blankT := ⟨_, rfl⟩
        obtain ⟨sb, hsb⟩ : ∃ sb, sb = itoaB sp := ⟨_, rfl⟩
        obtain ⟨gb, hgb⟩ : ∃ gb, gb = itoaB gp := ⟨_, rfl⟩
        obtain ⟨tb, htb⟩ : ∃ tb, tb = joinB rl blankT := ⟨_, rfl⟩
        rw [← hjb] at HJW
        rw [← hsb] at HSW
        rw [← hgb] at HGW
        rw [← htb] at HTW
        have zj : jb.size ≤ 78 := by rw [hjb]; exact joinB_le itoaB ws 2 26 (by have := HX.out; omega) (fun y hy => itoaB_small (by have := (HVW.out y hy).1; omega) (by have := (HVW.out y hy).2; omega))
        have zs : sb.size ≤ 2 := by rw [hsb]; exact itoaB_small (by omega) (by omega)
        have zg : gb.size ≤ 2 := by rw [hgb]; exact itoaB_small (by omega) (by omega)
        have zt : tb.size ≤ 72 := by rw [htb, HRLE.out]; exact joinB_le prT l 5 12 HVL.out (fun y hy => by unfold prT; rw [ByteArray.size_append, two_sz]; have := byT_size (HVP.out y hy).1 (HVP.out y hy).2.1; omega)
        have PF := Lib.hid (show (((((jb ++ (⟨#[59]⟩ : ByteArray)) ++ sb) ++ ⟨#[59]⟩) ++ gb) ++ ⟨#[59]⟩) ++ tb = faceT ws sp gp l by
          unfold faceT midT semiT
          rw [← HRLE.out, ← hjb, ← hsb, ← hgb, ← htb]
          simp only [ByteArray.append_assoc])
        have hsm : (⟨#[59]⟩ : ByteArray).size = 1 := rfl
        clear hjb hsb hgb htb hsp hgp
        have z6a : decide (jb.size + (⟨#[59]⟩ : ByteArray).size ≤ 9223372036854775807) = true := decide_eq_true (by simp only [ByteArray.size_append, hsm]; omega)
        have z6b : ¬ (9223372036854775807 < jb.size + (⟨#[59]⟩ : ByteArray).size) := (by simp only [ByteArray.size_append, hsm]; omega)
        have z7a : decide (jb.size + 1 ≤ 9223372036854775807) = true := decide_eq_true (by omega)
        have z7b : ¬ (9223372036854775807 < jb.size + 1) := (by omega)
        have z8a : decide ((jb ++ (⟨#[59]⟩ : ByteArray)).size + sb.size ≤ 9223372036854775807) = true := decide_eq_true (by simp only [ByteArray.size_append, hsm]; omega)
        have z8b : ¬ (9223372036854775807 < (jb ++ (⟨#[59]⟩ : ByteArray)).size + sb.size) := (by simp only [ByteArray.size_append, hsm]; omega)
        have z9a : decide ((jb.size + 1) + sb.size ≤ 9223372036854775807) = true := decide_eq_true (by omega)
        have z9b : ¬ (9223372036854775807 < (jb.size + 1) + sb.size) := (by omega)
        have z10a : decide (((jb ++ (⟨#[59]⟩ : ByteArray)) ++ sb).size + (⟨#[59]⟩ : ByteArray).size ≤ 9223372036854775807) = true := decide_eq_true (by simp only [ByteArray.size_append, hsm]; omega)
        have z10b : ¬ (9223372036854775807 < ((jb ++ (⟨#[59]⟩ : ByteArray)) ++ sb).size + (⟨#[59]⟩ : ByteArray).size) := (by simp only [ByteArray.size_append, hsm]; omega)
        have z11a : decide (((jb.size + 1) + sb.size) + 1 ≤ 9223372036854775807) = true := decide_eq_true (by omega)
        have z11b : ¬ (9223372036854775807 < ((jb.size + 1) + sb.size) + 1) := (by omega)
        have z12a : decide ((((jb ++ (⟨#[59]⟩ : ByteArray)) ++ sb) ++ (⟨#[59]⟩ : ByteArray)).size + gb.size ≤ 9223372036854775807) = true := decide_eq_true (by simp only [ByteArray.size_append, hsm]; omega)
        have z12b : ¬ (9223372036854775807 < (((jb ++ (⟨#[59]⟩ : ByteArray)) ++ sb) ++ (⟨#[59]⟩ : ByteArray)).size + gb.size) := (by simp only [ByteArray.size_append, hsm]; omega)
        have z13a : decide ((((jb.size + 1) + sb.size) + 1) + gb.size ≤ 9223372036854775807) = true := decide_eq_true (by omega)
        have z13b : ¬ (9223372036854775807 < (((jb.size + 1) + sb.size) + 1) + gb.size) := (by omega)
        have z14a : decide (((((jb ++ (⟨#[59]⟩ : ByteArray)) ++ sb) ++ (⟨#[59]⟩ : ByteArray)) ++ gb).size + (⟨#[59]⟩ : ByteArray).size ≤ 9223372036854775807) = true := decide_eq_true (by simp only [ByteArray.size_append, hsm]; omega)
        have z14b : ¬ (9223372036854775807 < ((((jb ++ (⟨#[59]⟩ : ByteArray)) ++ sb) ++ (⟨#[59]⟩ : ByteArray)) ++ gb).size + (⟨#[59]⟩ : ByteArray).size) := (by simp only [ByteArray.size_append, hsm]; omega)
        have z15a : decide (((((jb.size + 1) + sb.size) + 1) + gb.size) + 1 ≤ 9223372036854775807) = true := decide_eq_true (by omega)
        have z15b : ¬ (9223372036854775807 < ((((jb.size + 1) + sb.size) + 1) + gb.size) + 1) := (by omega)
        have z16a : decide ((((((jb ++ (⟨#[59]⟩ : ByteArray)) ++ sb) ++ (⟨#[59]⟩ : ByteArray)) ++ gb) ++ (⟨#[59]⟩ : ByteArray)).size + tb.size ≤ 9223372036854775807) = true := decide_eq_true (by simp only [ByteArray.size_append, hsm]; omega)
        have z16b : ¬ (9223372036854775807 < (((((jb ++ (⟨#[59]⟩ : ByteArray)) ++ sb) ++ (⟨#[59]⟩ : ByteArray)) ++ gb) ++ (⟨#[59]⟩ : ByteArray)).size + tb.size) := (by simp only [ByteArray.size_append, hsm]; omega)
        have z17a : decide ((((((jb.size + 1) + sb.size) + 1) + gb.size) + 1) + tb.size ≤ 9223372036854775807) = true := decide_eq_true (by omega)
        have z17b : ¬ (9223372036854775807 < (((((jb.size + 1) + sb.size) + 1) + gb.size) + 1) + tb.size) := (by omega)
        go_wp2
        have HW2 := Lib.hid (below_drew1 HW.out)
        have d26 : wr.drew.cell? ⟨w.heap.size, 26, none⟩ = some (.int .i8 sp) := c26
        have d27 : wr.drew.cell? ⟨w.heap.size, 27, none⟩ = some (.int .i8 gp) := c27
        have KQ := Lib.hid (show wr.drew.heap[w.heap.size]? = some (.cells (FV ws sp gp (.slice A l.length c)) 31 (0, 0)) from KV.out)
        have RQ := Lib.hid (Kd.R_below RW.out (below_drew1 (Below.refl wr.heap.size wr)))
        have HGQ := Lib.hid (HG.out.step HW2.out)
        clear c26 c27 HW
        refine start_ (n := 20) (S := fun w' => Below (wr).drew.heap.size (wr).drew w') (ds := []) #[false, false, false, false, false, false, false, false, false, false, false, false, false, false, false, false, false, false, false, false] (by kernel_rfl) rfl rfl (Below.refl _ _) (fun hHeld => ?_)
        generalize wr.drew = wq at HW2 d26 d27 KQ RQ HGQ hHeld ⊢
        refine pure_ (i := 0) (N := some 39) (v := ?_) (a' := ?_) #[true, false, false, false, false, false, false, false, false, false, false, false, false, false, false, false, false, false, false, false] rfl rfl (by kernel_rfl) (fun _ _ _ h => h) (Or.inl ⟨by rfl, ?_⟩) ?_ ?_
        rotate_left
        · intro w'
          go_simp
          with_reducible rfl
        rotate_left
        · simp only [Act.put, List.setIfInBounds_toArray, List.set_cons_zero, List.set_cons_succ, i64_w, i32_w]
          rfl
        refine pure_ (i := 1) (N := some 40) (v := ?_) (a' := ?_) #[true, true, false, false, false, false, false, false, false, false, false, false, false, false, false, false, false, false, false, false] rfl rfl (by kernel_rfl) (fun _ _ _ h => h) (Or.inl ⟨by rfl, ?_⟩) ?_ ?_
        rotate_left
        · intro w'
          go_simp
          with_reducible rfl
        rotate_left
        · simp only [Act.put, List.setIfInBounds_toArray, List.set_cons_zero, List.set_cons_succ, i64_w, i32_w]
          rfl
        refine pure_ (i := 4) (N := some 43) (v := ?_) (a' := ?_) #[true, true, false, false, true, false, false, false, false, false, false, false, false, false, false, false, false, false, false, false] rfl rfl (by kernel_rfl) (fun _ _ _ h => h) (Or.inl ⟨by rfl, ?_⟩) ?_ ?_
        rotate_left
        · intro w'
          go_simp
          with_reducible rfl
        rotate_left
        · simp only [Act.put, List.setIfInBounds_toArray, List.set_cons_zero, List.set_cons_succ, i64_w, i32_w]
          rfl
        refine take_ (i := 5) (N := some 44) (v := ?_) (a' := ?_) #[true, true, false, false, true, true, false, false, false, false, false, false, false, false, false, false, false, false, false, false] rfl rfl (by kernel_rfl) (fun _ _ _ h => h) (Or.inl ⟨by rfl, ?_⟩) hHeld ?_ ?_
        rotate_left
        · rintro w' hS
          have q_d26 := bcell hS d26
          have q_d27 := bcell hS d27
          go_simp
          with_reducible rfl
        rotate_left
        · simp only [Act.put, List.setIfInBounds_toArray, List.set_cons_zero, List.set_cons_succ, i64_w, i32_w]
          rfl
        refine pure_ (i := 6) (N := some 45) (v := ?_) (a' := ?_) #[true, true, false, false, true, true, true, false, false, false, false, false, false, false, false, false, false, false, false, false] rfl rfl (by kernel_rfl) (fun _ _ _ h => h) (Or.inl ⟨by rfl, ?_⟩) ?_ ?_
        rotate_left
        · intro w'
          go_simp
          with_reducible rfl
        rotate_left
        · simp only [Act.put, List.setIfInBounds_toArray, List.set_cons_zero, List.set_cons_succ, i64_w, i32_w]
          rfl
        refine pure_ (i := 10) (N := some 49) (v := ?_) (a' := ?_) #[true, true, false, false, true, true, true, false, false, false, true, false, false, false, false, false, false, false, false, false] rfl rfl (by kernel_rfl) (fun _ _ _ h => h) (Or.inl ⟨by rfl, ?_⟩) ?_ ?_
        rotate_left
        · intro w'
          go_simp
          with_reducible rfl
        rotate_left
        · simp only [Act.put, List.setIfInBounds_toArray, List.set_cons_zero, List.set_cons_succ, i64_w, i32_w]
          rfl
        refine take_ (i := 11) (N := some 50) (v := ?_) (a' := ?_) #[true, true, false, false, true, true, true, false, false, false, true, true, false, false, false, false, false, false, false, false] rfl rfl (by kernel_rfl) (fun _ _ _ h => h) (Or.inl ⟨by rfl, ?_⟩) hHeld ?_ ?_
        rotate_left
        · rintro w' hS
          have q_d26 := bcell hS d26
          have q_d27 := bcell hS d27
          go_simp
          with_reducible rfl
        rotate_left
        · simp only [Act.put, List.setIfInBounds_toArray, List.set_cons_zero, List.set_cons_succ, i64_w, i32_w]
          rfl
        refine pure_ (i := 12) (N := some 51) (v := ?_) (a' := ?_) #[true, true, false, false, true, true, true, false, false, false, true, true, true, false, false, false, false, false, false, false] rfl rfl (by kernel_rfl) (fun _ _ _ h => h) (Or.inl ⟨by rfl, ?_⟩) ?_ ?_
        rotate_left
        · intro w'
          go_simp
          with_reducible rfl
        rotate_left
        · simp only [Act.put, List.setIfInBounds_toArray, List.set_cons_zero, List.set_cons_succ, i64_w, i32_w]
          rfl
        refine pure_ (i := 16) (N := some 55) (v := ?_) (a' := ?_) #[true, true, false, false, true, true, true, false, false, false, true, true, true, false, false, false, true, false, false, false] rfl rfl (by kernel_rfl) (fun _ _ _ h => h) (Or.inl ⟨by rfl, ?_⟩) ?_ ?_
        rotate_left
        · intro w'
          go_simp
          with_reducible rfl
        rotate_left
        · simp only [Act.put, List.setIfInBounds_toArray, List.set_cons_zero, List.set_cons_succ, i64_w, i32_w]
          rfl
        refine one_ (i := 2) (N := some 41) #[true, true, true, false, true, true, true, false, false, false, true, true, true, false, false, false, true, false, false, false] rfl rfl (by kernel_rfl) (by decide) (fun K hK => ?_)
        refine goes_ Tryd.func21 (by kernel_rfl) rfl #[.slice (some ⟨w.heap.size, 0, none⟩) 26 26] (by rfl) rfl rfl (by (try simp only [List.map_toArray, List.map_cons, List.map_nil]); first | done | rfl | (simp only [List.length_drop, List.length_take]; rfl)) ?_
        with_reducible refine (HJW.out _ (HGQ.out.step hHeld) ((hHeld.block _ (blk_lt KQ.out)).trans KQ.out)).mono ?_
        rintro e wz ⟨rfl, hb⟩
        refine ⟨_, rfl, ?_⟩
        have hS_ := below_step hHeld hb
        clear hb hHeld
        refine hK.out _ _ hS_ (fun hHeld => ?_)
        clear hK K hS_
        refine norm_ (a' := ?_) ?_ ?_
        rotate_left
        · show Act.put _ (some 41) _ = _
          simp only [Act.put, List.setIfInBounds_toArray, List.set_cons_zero, List.set_cons_succ, i64_w, i32_w]
          rfl
        refine pure_ (i := 3) (N := some 42) (v := ?_) (a' := ?_) #[true, true, true, true, true, true, true, false, false, false, true, true, true, false, false, false, true, false, false, false] rfl rfl (by kernel_rfl) (fun _ _ _ h => h) (Or.inl ⟨by rfl, ?_⟩) ?_ ?_
        rotate_left
        · intro w'
          go_simp
          with_reducible rfl
        rotate_left
        · simp only [Act.put, List.setIfInBounds_toArray, List.set_cons_zero, List.set_cons_succ, i64_w, i32_w]
          rfl
        refine one_ (i := 7) (N := some 46) #[true, true, true, true, true, true, true, true, false, false, true, true, true, false, false, false, true, false, false, false] rfl rfl (by kernel_rfl) (by decide) (fun K hK => ?_)
        refine goes_ Tryd.func20 (by kernel_rfl) rfl #[.int .i64 sp] (by rfl) rfl rfl (by (try simp only [List.map_toArray, List.map_cons, List.map_nil]); first | done | rfl | (simp only [List.length_drop, List.length_take]; rfl)) ?_
        with_reducible refine (HSW.out _ (HGQ.out.step hHeld)).mono ?_
        rintro e wz ⟨rfl, hb⟩
        refine ⟨_, rfl, ?_⟩
        have hS_ := below_step hHeld hb
        clear hb hHeld
        refine hK.out _ _ hS_ (fun hHeld => ?_)
        clear hK K hS_
        refine norm_ (a' := ?_) ?_ ?_
        rotate_left
        · show Act.put _ (some 46) _ = _
          simp only [Act.put, List.setIfInBounds_toArray, List.set_cons_zero, List.set_cons_succ, i64_w, i32_w]
          rfl
        refine pure_ (i := 8) (N := some 47) (v := ?_) (a' := ?_) #[true, true, true, true, true, true, true, true, true, false, true, true, true, false, false, false, true, false, false, false] rfl rfl (by kernel_rfl) (fun _ _ _ h => h) (Or.inl ⟨by rfl, ?_⟩) ?_ ?_
        rotate_left
        · intro w'
          go_simp
          with_reducible rfl
        rotate_left
        · simp only [Act.put, List.setIfInBounds_toArray, List.set_cons_zero, List.set_cons_succ, i64_w, i32_w]
          rfl
        refine pure_ (i := 9) (N := some 48) (v := ?_) (a' := ?_) #[true, true, true, true, true, true, true, true, true, true, true, true, true, false, false, false, true, false, false, false] rfl rfl (by kernel_rfl) (fun _ _ _ h => h) (Or.inl ⟨by rfl, ?_⟩) ?_ ?_
        rotate_left
        · intro w'
          go_simp
          with_reducible rfl
        rotate_left
        · simp only [Act.put, List.setIfInBounds_toArray, List.set_cons_zero, List.set_cons_succ, i64_w, i32_w]
          rfl
        refine one_ (i := 13) (N := some 52) #[true, true, true, true, true, true, true, true, true, true, true, true, true, true, false, false, true, false, false, false] rfl rfl (by kernel_rfl) (by decide) (fun K hK => ?_)
        refine goes_ Tryd.func20 (by kernel_rfl) rfl #[.int .i64 gp] (by rfl) rfl rfl (by (try simp only [List.map_toArray, List.map_cons, List.map_nil]); first | done | rfl | (simp only [List.length_drop, List.length_take]; rfl)) ?_
        with_reducible refine (HGW.out _ (HGQ.out.step hHeld)).mono ?_
        rintro e wz ⟨rfl, hb⟩
        refine ⟨_, rfl, ?_⟩
        have hS_ := below_step hHeld hb
        clear hb hHeld
        refine hK.out _ _ hS_ (fun hHeld => ?_)
        clear hK K hS_
        refine norm_ (a' := ?_) ?_ ?_
        rotate_left
        · show Act.put _ (some 52) _ = _
          simp only [Act.put, List.setIfInBounds_toArray, List.set_cons_zero, List.set_cons_succ, i64_w, i32_w]
          rfl
        refine pure_ (i := 14) (N := some 53) (v := ?_) (a' := ?_) #[true, true, true, true, true, true, true, true, true, true, true, true, true, true, true, false, true, false, false, false] rfl rfl (by kernel_rfl) (fun _ _ _ h => h) (Or.inl ⟨by rfl, ?_⟩) ?_ ?_
        rotate_left
        · intro w'
          go_simp
          with_reducible rfl
        rotate_left
        · simp only [Act.put, List.setIfInBounds_toArray, List.set_cons_zero, List.set_cons_succ, i64_w, i32_w]
          rfl
        refine pure_ (i := 15) (N := some 54) (v := ?_) (a' := ?_) #[true, true, true, true, true, true, true, true, true, true, true, true, true, true, true, true, true, false, false, false] rfl rfl (by kernel_rfl) (fun _ _ _ h => h) (Or.inl ⟨by rfl, ?_⟩) ?_ ?_
        rotate_left
        · intro w'
          go_simp
          with_reducible rfl
        rotate_left
        · simp only [Act.put, List.setIfInBounds_toArray, List.set_cons_zero, List.set_cons_succ, i64_w, i32_w]
          rfl
        refine one_ (i := 17) (N := some 56) #[true, true, true, true, true, true, true, true, true, true, true, true, true, true, true, true, true, true, false, false] rfl rfl (by kernel_rfl) (by decide) (fun K hK => ?_)
        refine goes_ Tryd.func22 (by kernel_rfl) rfl #[.slice B rl.length d, .string ⟨#[32]⟩] (by rfl) rfl rfl (by (try simp only [List.map_toArray, List.map_cons, List.map_nil]); first | done | rfl | (simp only [List.length_drop, List.length_take]; rfl)) ?_
        with_reducible refine (HTW.out _ (Kd.R_reads' (Kd.R_below RQ.out hHeld)).2.2).mono ?_
        rintro e wz ⟨rfl, hb⟩
        refine ⟨_, rfl, ?_⟩
        have hS_ := below_step hHeld hb
        clear hb hHeld
        refine hK.out _ _ hS_ (fun hHeld => ?_)
        clear hK K hS_
        refine norm_ (a' := ?_) ?_ ?_
        rotate_left
        · show Act.put _ (some 56) _ = _
          simp only [Act.put, List.setIfInBounds_toArray, List.set_cons_zero, List.set_cons_succ, i64_w, i32_w]
          rfl
        refine pure_ (i := 18) (N := some 57) (v := ?_) (a' := ?_) #[true, true, true, true, true, true, true, true, true, true, true, true, true, true, true, true, true, true, true, false] rfl rfl (by kernel_rfl) (fun _ _ _ h => h) (Or.inl ⟨by rfl, ?_⟩) ?_ ?_
        rotate_left
        · intro w'
          go_simp
          with_reducible rfl
        rotate_left
        · simp only [Act.put, List.setIfInBounds_toArray, List.set_cons_zero, List.set_cons_succ, i64_w, i32_w]
          rfl
        refine pure_ (i := 19) (N := some 2) (v := ?_) (a' := ?_) #[true, true, true, true, true, true, true, true, true, true, true, true, true, true, true, true, true, true, true, true] rfl rfl (by kernel_rfl) (fun _ _ _ h => h) (Or.inl ⟨by rfl, ?_⟩) ?_ ?_
        rotate_left
        · intro w'
          go_simp
          with_reducible rfl
        rotate_left
        · simp only [Act.put, List.setIfInBounds_toArray, List.set_cons_zero, List.set_cons_succ, i64_w, i32_w]
          rfl
        refine done_ (by kernel_rfl) ?_
        have HW3 := Lib.hid (below_step HW2.out hHeld)
        clear hHeld d26 d27 HW2
        rw [PF.out]
        go_wp2
        go_ret
        exact ⟨rfl, HW3.out⟩
end Go.Proofs.YtkldhleiipfaaaaDoor.Q
