/- Face.isFace, by hand: it answers whether a face is valid, but for the number of its pairs. -/
import Derived.Test.YtimkkjkgbbfgbaaGreatDoorQFc
import Derived.Test.YtimkkjkgbbfgbaaGreatDoorQCmp
import Derived.Deep.RegionHeld3
namespace Go.Proofs.YtimkkjkgbbfgbaaGreatDoor.Q
open Go.RowKit Go.Proofs.YtimkkjkgbbfgbaaGreatDoorW.PrintWords Go.Proofs.YtimkkjkgbbfgbaaGreatDoorW.PrintLast Go.Proofs.YtimkkjkgbbfgbaaGreatDoorW.PrintMore
open Go.Proofs.YtimkkjkgbbfgbaaGreatDoor.Pure
set_option linter.unusedVariables false
set_option linter.unusedSimpArgs false

def letB (x : Int) : Bool := decide (65 ≤ x) && decide (x ≤ 90)
def inB (a lo hi : Int) : Bool := decide (lo ≤ a) && decide (a ≤ hi)
theorem impl_letter_is (a : Int) (b : Bool) (w : World) (h : letB a = b) : Calls Tryz.prog 37 #[.int .u8 a] w fun e w' => e = .returned (.bool b) ∧ w = w' := by
  subst h
  unfold letB
  by_cases h1 : 65 ≤ a
  · go_enter Tryz.func37, Tryz.ntmps37
    go_wp2
    go_ret
    exact ⟨by simp [h1], rfl⟩
  · go_enter Tryz.func37, Tryz.ntmps37
    go_wp2
    go_ret
    exact ⟨by simp; omega, rfl⟩
theorem impl_in_is (a lo hi : Int) (b : Bool) (w : World) (h : inB a lo hi = b) : Calls Tryz.prog 58 #[.int .i64 a, .int .i64 lo, .int .i64 hi] w fun e w' => e = .returned (.bool b) ∧ w = w' := by
  subst h
  unfold inB
  by_cases h1 : lo ≤ a
  · go_enter Tryz.func58, Tryz.ntmps58
    go_wp2
    go_ret
    exact ⟨by simp [h1], rfl⟩
  · go_enter Tryz.func58, Tryz.ntmps58
    go_wp2
    go_ret
    exact ⟨by simp; omega, rfl⟩
theorem impl_letter_q (a : Int) (b : Bool) (w : World) (h : letB a = b) : Calls Tryz.prog 37 #[.int .u8 a] w fun e w' => e = .returned (.bool b) ∧ w' = w := (impl_letter_is a b w h).mono fun _ _ h => ⟨h.1, h.2.symm⟩
theorem impl_in_q (a lo hi : Int) (b : Bool) (w : World) (h : inB a lo hi = b) : Calls Tryz.prog 58 #[.int .i64 a, .int .i64 lo, .int .i64 hi] w fun e w' => e = .returned (.bool b) ∧ w' = w := (impl_in_is a lo hi b w h).mono fun _ _ h => ⟨h.1, h.2.symm⟩

def aheadP (p q : S33) : Bool := decide (p.f0 < q.f0) || (decide (p.f0 = q.f0) && decide (p.f1 < q.f1))
def wideB (ws : List Int) : Bool := (List.range 26).all fun j => inB (rd ws (j : Nat)) 1 40
def pairB (gp : Int) (l : List S33) (i : Nat) : Bool :=
  letB (rd_T33 l (i : Nat)).f0 && letB (rd_T33 l (i : Nat)).f1 && inB (rd_T33 l (i : Nat)).f2 (-10) 10 && !decide ((rd_T33 l (i : Nat)).f2 = 0) && !decide (IntKind.i8.wrap (gp + (rd_T33 l (i : Nat)).f2) < 0) && (decide (i = 0) || aheadP (rd_T33 l ((i - 1 : Nat) : Int)) (rd_T33 l (i : Nat)))
def pairsB (gp : Int) (l : List S33) : Bool := (List.range l.length).all (pairB gp l)
def faceB (ws : List Int) (sp gp : Int) (l : List S33) : Bool := wideB ws && pairsB gp l && inB sp 1 40 && inB gp 0 10
theorem all_step {p : Nat → Bool} {j : Nat} (h : (List.range j).all p = true) (hp : p j = true) : (List.range (j + 1)).all p = true := by
  rw [List.range_succ, List.all_append, h]
  simp [hp]
theorem all_bad {p : Nat → Bool} {n j : Nat} (hj : j < n) (hp : p j = false) : (List.range n).all p = false := by
  rw [List.all_eq_false]
  exact ⟨j, List.mem_range.2 hj, by rw [hp]; decide⟩
/-- What a face that comes in keeps to: numbers of eight bits. -/
structure Fit (ws : List Int) (sp gp : Int) (l : List S33) : Prop where
  ws : ∀ k : Nat, k < 26 → -128 ≤ rd ws (k : Nat) ∧ rd ws (k : Nat) ≤ 127
  sp : -128 ≤ sp ∧ sp ≤ 127
  gp : -128 ≤ gp ∧ gp ≤ 127
  pr : ∀ k : Nat, k < l.length → -128 ≤ (rd_T33 l (k : Nat)).f2 ∧ (rd_T33 l (k : Nat)).f2 ≤ 127

theorem index_arr (ws : List Int) (hx : ws.length = 26) (k : Nat) (h : k < 26) (w : World) : (Instr.index 25 (.agg (arr8 ws)) (.int .i64 (k : Nat))).run Tryz.prog w = .ok (.int .i8 (rd ws (k : Nat))) w := by
  have hg := arr8_get ws k (by omega)
  have hz := Tryz.sizeOf24
  have ha := Tryz.isAgg24
  have hu := fun w => run_underlying (P := Tryz.prog) (w := w) Tryz.underlying25
  simp [Instr.index, hu, asIntOf, go_sem, part, hg, hz, ha]
  intro h26
  omega
theorem letter_b (a : Int) (b : Bool) (h : letB a = b) (W : World) : Calls Tryz.prog 37 #[.int .u8 a] W fun e w' => e = .returned (.bool b) ∧ Below W.heap.size W w' := (impl_letter_is a b W h).mono fun _ _ h => ⟨h.1, h.2 ▸ Below.refl _ _⟩
theorem in_b (a lo hi : Int) (b : Bool) (h : inB a lo hi = b) (W : World) : Calls Tryz.prog 58 #[.int .i64 a, .int .i64 lo, .int .i64 hi] W fun e w' => e = .returned (.bool b) ∧ Below W.heap.size W w' := (impl_in_is a lo hi b W h).mono fun _ _ h => ⟨h.1, h.2 ▸ Below.refl _ _⟩
theorem keep8 {W w' W0 : World} {a1 a2 a3 a4 a5 a6 a7 a8 : Addr} {v1 v2 v3 v4 v5 v6 v7 v8 : Value} (h : W.cell? a1 = some v1 ∧ W.cell? a2 = some v2 ∧ W.cell? a3 = some v3 ∧ W.cell? a4 = some v4 ∧ W.cell? a5 = some v5 ∧ W.cell? a6 = some v6 ∧ W.cell? a7 = some v7 ∧ W.cell? a8 = some v8 ∧ RowKit.Hid (Below W0.heap.size W0 W)) (hb : Below W.heap.size W w') :
    w'.cell? a1 = some v1 ∧ w'.cell? a2 = some v2 ∧ w'.cell? a3 = some v3 ∧ w'.cell? a4 = some v4 ∧ w'.cell? a5 = some v5 ∧ w'.cell? a6 = some v6 ∧ w'.cell? a7 = some v7 ∧ w'.cell? a8 = some v8 ∧ RowKit.Hid (Below W0.heap.size W0 w') :=
  ⟨pw_cell_below hb h.1, pw_cell_below hb h.2.1, pw_cell_below hb h.2.2.1, pw_cell_below hb h.2.2.2.1, pw_cell_below hb h.2.2.2.2.1, pw_cell_below hb h.2.2.2.2.2.1, pw_cell_below hb h.2.2.2.2.2.2.1, pw_cell_below hb h.2.2.2.2.2.2.2.1, Lib.hid (below_step h.2.2.2.2.2.2.2.2.out hb)⟩
theorem heldB8 {W W0 : World} {a1 a2 a3 a4 a5 a6 a7 a8 : Addr} {v1 v2 v3 v4 v5 v6 v7 v8 : Value} (h : W.cell? a1 = some v1 ∧ W.cell? a2 = some v2 ∧ W.cell? a3 = some v3 ∧ W.cell? a4 = some v4 ∧ W.cell? a5 = some v5 ∧ W.cell? a6 = some v6 ∧ W.cell? a7 = some v7 ∧ W.cell? a8 = some v8 ∧ RowKit.Hid (Below W0.heap.size W0 W)) : Below W0.heap.size W0 W := h.2.2.2.2.2.2.2.2.out
theorem cmp8_val (a b : Int) : cmp_Compare_uint8.f a b = some (if a < b then -1 else if b < a then 1 else 0) := by
  unfold cmp_Compare_uint8.f cmp_isNaN_uint8.f
  simp only [bne_self_eq_false, Option.bind_some, Bool.false_eq_true, if_false]
  by_cases h1 : a < b
  · rw [if_pos h1, if_pos h1]
  · rw [if_neg h1, if_neg h1]
    by_cases h2 : b < a
    · rw [if_pos h2, if_pos h2]
    · rw [if_neg h2, if_neg h2]
theorem or2_val (x y : Int) : cmp_Or_int.f 3 [x, y] = some (if x = 0 then y else x) := by
  unfold cmp_Or_int.f
  simp only [cmp_Or_int.l0]
  have e0 : rd [x, y] 0 = x := rfl
  have e1 : rd [x, y] 1 = y := rfl
  have w1 : wrap64 1 = 1 := by unfold wrap64; omega
  have w2 : wrap64 2 = 2 := by unfold wrap64; omega
  by_cases h : x = 0
  · subst h
    by_cases h2 : y = 0
    · subst h2
      simp [e0, e1, w1, w2]
    · simp [e0, e1, w1, h2]
  · simp [e0, h]
/-- Below 0 where the first pair comes ahead. -/
theorem comparePairs_val (p q : S33) : ∃ r, impl_comparePairs.f 3 p.f0 p.f1 p.f2 q.f0 q.f1 q.f2 = some r ∧ decide (0 ≤ r) = !aheadP p q := by
  unfold impl_comparePairs.f
  rw [cmp8_val, Option.bind_some, cmp8_val, Option.bind_some, or2_val, Option.bind_some]
  refine ⟨_, rfl, ?_⟩
  unfold aheadP
  rw [Bool.eq_iff_iff]
  simp only [decide_eq_true_iff, Bool.not_eq_true', Bool.or_eq_false_iff, Bool.and_eq_false_imp, decide_eq_false_iff_not]
  repeat' split
  all_goals omega
theorem faceB_pair {ws : List Int} {sp gp : Int} {l : List S33} {j : Nat} (hj : j < l.length) (h : pairB gp l j = false) : faceB ws sp gp l = false := by
  unfold faceB pairsB
  rw [all_bad hj h]
  simp
theorem faceB_wide {ws : List Int} {sp gp : Int} {l : List S33} {j : Nat} (hj : j < 26) (h : inB (rd ws (j : Nat)) 1 40 = false) : faceB ws sp gp l = false := by
  unfold faceB wideB
  rw [all_bad (p := fun j => inB (rd ws (j : Nat)) 1 40) hj h]
  simp
theorem ret_b {a b : Bool} (h : a = b) : Ending.returned (.bool b) = .returned (.bool a) := by rw [h]

set_option maxHeartbeats 8000000 in
set_option maxRecDepth 100000 in
theorem isFaceC (ws : List Int) (hx : ws.length = 26) (sp gp : Int) (A : Option Addr) (c : Nat) (l : List S33) (w : World) (hr : Kd.C k33 w A l.length l) (hc : l.length ≤ c) (hl : l.length ≤ 1048576) (hf : Fit ws sp gp l) :
    Calls Tryz.prog 43 #[.agg (FV ws sp gp (.slice A l.length c))] w fun e w' => e = .returned (.bool (faceB ws sp gp l)) ∧ Below w.heap.size w w' := by
  go_enter Tryz.func43, Tryz.ntmps43
  obtain ⟨N, hN⟩ : ∃ N : Nat, N = 26 := ⟨_, rfl⟩
  obtain ⟨T, hT⟩ : ∃ T : TypeId, T = 25 := ⟨_, rfl⟩
  have hz : ∀ w, (sizeOf T).run Tryz.prog w = .ok N w := fun w => by rw [hN, hT]; exact Tryz.sizeOf25 w
  have ha : ∀ w, (isAgg T).run Tryz.prog w = .ok true w := fun w => by rw [hT]; exact Tryz.isAgg25 w
  have e1 : ∀ x, Op.load 25 x = Op.load T x := fun x => by rw [hT]
  simp only [e1]
  clear e1
  have HN := Lib.hid hN
  have HX := Lib.hid hx
  have HR := Lib.hid hr
  have HC := Lib.hid hc
  have HL := Lib.hid hl
  have HF := Lib.hid hf
  clear hT hN hr hc hl hx hf
  have H1 := Lib.hid (heap_alloc_new w (.cells (FV ws sp gp (.slice A l.length c)) 28))
  have HB := Lib.hid (below_alloc (Below.refl _ w) (.cells (FV ws sp gp (.slice A l.length c)) 28))
  have HZ := Lib.hid (show (w.alloc (.cells (FV ws sp gp (.slice A l.length c)) 28)).heap.size = w.heap.size + 1 by simp)
  have hL0 := loadA H1.out HX.out HN.out
  go_wp2
  clear hL0
  go_loopw [9] (fun i wr => ∃ k : Nat, k ≤ 26 ∧ i = .int .i64 k ∧ RowKit.Hid ((List.range k).all (fun j => inB (rd ws (j : Nat)) 1 40) = true) ∧ RowKit.Hid (Below (w.alloc (.cells (FV ws sp gp (.slice A l.length c)) 28)).heap.size (w.alloc (.cells (FV ws sp gp (.slice A l.length c)) 28)) wr)) (fun i _ => 26 - (intOf i).toNat)
  case atStart => exact ⟨0, Nat.zero_le _, rfl, Lib.hid rfl, Lib.hid (Below.refl _ _)⟩
  case round =>
    obtain ⟨k, hk, rfl, HA, HW1⟩ := hrel
    have HW := Lib.hid (below_step HB.out HW1.out)
    have K0 := Lib.hid ((HW1.out.block w.heap.size (by rw [HZ.out]; omega)).trans H1.out)
    by_cases hlt : k < 26
    · have hlt2 : (k : Int) < 26 := by omega
      have hg := arr8_get ws k (by have := HX.out; omega)
      have hfit := HF.out.ws k hlt
      have hidx := index_arr ws HX.out k hlt wr
      have hwr : IntKind.i64.wrap (rd ws (k : Nat)) = rd ws (k : Nat) := IntWalk.i64_in _ (by omega)
      clear hg
      cases hb : inB (rd ws (k : Nat)) 1 40 with
      | false =>
        have E := Lib.hid (faceB_wide (ws := ws) (sp := sp) (gp := gp) (l := l) hlt hb)
        have HI := Lib.hid hb
        clear hb
        go_wp2_with (first | (go_at_call 58; with_reducible refine (impl_in_is (rd ws (k : Nat)) 1 40 false _ HI.out).mono ?_; rintro e w' ⟨rfl, rfl⟩))
        go_ret
        exact ⟨ret_b E.out, HW.out⟩
      | true =>
        have HI := Lib.hid hb
        clear hb
        go_wp2_with (first | (go_at_call 58; with_reducible refine (impl_in_is (rd ws (k : Nat)) 1 40 true _ HI.out).mono ?_; rintro e w' ⟨rfl, rfl⟩))
        go_roundw
        case measure => simp only [intOf]; omega
        case rel => exact ⟨k + 1, by omega, by go_num, Lib.hid (all_step HA.out HI.out), HW1⟩
    · have hlt2 : ¬ (k : Int) < 26 := by omega
      have HWB := Lib.hid (show wideB ws = true by have := HA.out; rw [show k = 26 by omega] at this; exact this)
      have c28 := (blk_cell K0.out 28).trans (FV_28 ws HX.out _ _ _)
      clear hk hlt
      go_wp2
      go_loopw [20] (fun i wr => ∃ j : Nat, j ≤ l.length ∧ i = .int .i64 j ∧ RowKit.Hid ((List.range j).all (pairB gp l) = true) ∧ RowKit.Hid (Below (w.alloc (.cells (FV ws sp gp (.slice A l.length c)) 28)).heap.size (w.alloc (.cells (FV ws sp gp (.slice A l.length c)) 28)) wr)) (fun i _ => l.length - (intOf i).toNat)
      case atStart => exact ⟨0, Nat.zero_le _, rfl, Lib.hid rfl, HW1⟩
      case round =>
        clear c28 hlt2
        obtain ⟨j, hj, rfl, HA, HV1⟩ := hrel
        have HV := Lib.hid (below_step HB.out HV1.out)
        have J0 := Lib.hid ((HV1.out.block w.heap.size (by rw [HZ.out]; omega)).trans H1.out)
        have hbl : (l.length : Int) ≤ 1048576 := by have := HL.out; omega
        by_cases hlj : j < l.length
        · have hlj2 : (j : Int) < (l.length : Int) := by omega
          obtain ⟨ad, rfl, hx0, hx1, hx2⟩ := at_T33 (Kd.C_below HR.out HV.out) (j : Int) (by omega) (by omega)
          simp only [Int.toNat_natCast] at hx0 hx1 hx2
          have hfit := HF.out.pr j hlj
          have hgp := HF.out.gp
          have HB2 := Lib.hid (below_alloc (Below.refl wr.heap.size wr) (.cells #[.int .u8 (rd_T33 l (j : Nat)).f0, .int .u8 (rd_T33 l (j : Nat)).f1, .int .i8 (rd_T33 l (j : Nat)).f2] 33))
          have HY := Lib.hid (heap_alloc_new wr (.cells #[.int .u8 (rd_T33 l (j : Nat)).f0, .int .u8 (rd_T33 l (j : Nat)).f1, .int .i8 (rd_T33 l (j : Nat)).f2] 33))
          have HV2 := Lib.hid (below_step HV.out HB2.out)
          have HV3 := Lib.hid (below_step (w := (w.alloc (.cells (FV ws sp gp (.slice (some ad) l.length c)) 28))) HV1.out HB2.out)
          have d0 : (wr.alloc (.cells #[.int .u8 (rd_T33 l (j : Nat)).f0, .int .u8 (rd_T33 l (j : Nat)).f1, .int .i8 (rd_T33 l (j : Nat)).f2] 33)).cell? ⟨wr.heap.size, 0, none⟩ = some (.int .u8 (rd_T33 l (j : Nat)).f0) := (blk_cell HY.out 0).trans rfl
          have d1 : (wr.alloc (.cells #[.int .u8 (rd_T33 l (j : Nat)).f0, .int .u8 (rd_T33 l (j : Nat)).f1, .int .i8 (rd_T33 l (j : Nat)).f2] 33)).cell? ⟨wr.heap.size, 1, none⟩ = some (.int .u8 (rd_T33 l (j : Nat)).f1) := (blk_cell HY.out 1).trans rfl
          have d2 : (wr.alloc (.cells #[.int .u8 (rd_T33 l (j : Nat)).f0, .int .u8 (rd_T33 l (j : Nat)).f1, .int .i8 (rd_T33 l (j : Nat)).f2] 33)).cell? ⟨wr.heap.size, 2, none⟩ = some (.int .i8 (rd_T33 l (j : Nat)).f2) := (blk_cell HY.out 2).trans rfl
          have g27 := pw_cell_below HB2.out ((blk_cell J0.out 27).trans (FV_27 ws HX.out _ _ _))
          have g28 := pw_cell_below HB2.out ((blk_cell J0.out 28).trans (FV_28 ws HX.out _ _ _))
          have hwr : IntKind.i64.wrap (rd_T33 l (j : Nat)).f2 = (rd_T33 l (j : Nat)).f2 := IntWalk.i64_in _ (by omega)
          have PB : ∀ b, pairB gp l j = b → pairB gp l j = b := fun _ h => h
          cases hb : letB (rd_T33 l (j : Nat)).f0 with
          | false =>
            have E := Lib.hid (faceB_pair (ws := ws) (sp := sp) hlj (show pairB gp l j = false by unfold pairB; rw [hb]; simp))
            have L0 := Lib.hid hb
            clear hb
            go_wp2
            go_quiet ((first | (go_at_call 37; with_reducible exact Calls.quiet_of_same (impl_letter_q _ _ _ L0.out)) | (go_at_call 37; with_reducible exact Calls.quiet_of_same (impl_letter_q _ _ _ L1.out)) | (go_at_call 58; with_reducible exact Calls.quiet_of_same (impl_in_q _ _ _ _ _ I2.out))))
            go_wp2
            go_ret
            exact ⟨ret_b E.out, pw_below_drewN HV2.out _⟩
          | true =>
          have L0 := Lib.hid hb
          clear hb
          cases hb : letB (rd_T33 l (j : Nat)).f1 with
          | false =>
            have E := Lib.hid (faceB_pair (ws := ws) (sp := sp) hlj (show pairB gp l j = false by unfold pairB; rw [hb]; simp))
            have L1 := Lib.hid hb
            clear hb
            go_wp2
            go_quiet ((first | (go_at_call 37; with_reducible exact Calls.quiet_of_same (impl_letter_q _ _ _ L0.out)) | (go_at_call 37; with_reducible exact Calls.quiet_of_same (impl_letter_q _ _ _ L1.out)) | (go_at_call 58; with_reducible exact Calls.quiet_of_same (impl_in_q _ _ _ _ _ I2.out))))
            go_wp2
            go_ret
            exact ⟨ret_b E.out, pw_below_drewN HV2.out _⟩
          | true =>
          have L1 := Lib.hid hb
          clear hb
          cases hb : inB (rd_T33 l (j : Nat)).f2 (-10) 10 with
          | false =>
            have E := Lib.hid (faceB_pair (ws := ws) (sp := sp) hlj (show pairB gp l j = false by unfold pairB; rw [hb]; simp))
            have I2 := Lib.hid hb
            clear hb
            go_wp2
            go_quiet ((first | (go_at_call 37; with_reducible exact Calls.quiet_of_same (impl_letter_q _ _ _ L0.out)) | (go_at_call 37; with_reducible exact Calls.quiet_of_same (impl_letter_q _ _ _ L1.out)) | (go_at_call 58; with_reducible exact Calls.quiet_of_same (impl_in_q _ _ _ _ _ I2.out))))
            go_wp2
            go_ret
            exact ⟨ret_b E.out, pw_below_drewN HV2.out _⟩
          | true =>
          have I2 := Lib.hid hb
          clear hb
          cases hb : ((rd_T33 l (j : Nat)).f2 == 0) with
          | true =>
            have E := Lib.hid (faceB_pair (ws := ws) (sp := sp) hlj (show pairB gp l j = false by unfold pairB; rw [decide_eq_true (beq_iff_eq.1 hb)]; simp))
            go_wp2
            go_quiet ((first | (go_at_call 37; with_reducible exact Calls.quiet_of_same (impl_letter_q _ _ _ L0.out)) | (go_at_call 37; with_reducible exact Calls.quiet_of_same (impl_letter_q _ _ _ L1.out)) | (go_at_call 58; with_reducible exact Calls.quiet_of_same (impl_in_q _ _ _ _ _ I2.out))))
            go_wp2
            go_ret
            exact ⟨ret_b E.out, pw_below_drewN HV2.out _⟩
          | false =>
          have Z3 := Lib.hid (decide_eq_false (beq_eq_false_iff_ne.1 hb))
          cases hb4 : decide (IntKind.i8.wrap (gp + (rd_T33 l (j : Nat)).f2) < 0) with
          | true =>
            have E := Lib.hid (faceB_pair (ws := ws) (sp := sp) hlj (show pairB gp l j = false by unfold pairB; rw [hb4]; simp))
            go_wp2
            go_quiet ((first | (go_at_call 37; with_reducible exact Calls.quiet_of_same (impl_letter_q _ _ _ L0.out)) | (go_at_call 37; with_reducible exact Calls.quiet_of_same (impl_letter_q _ _ _ L1.out)) | (go_at_call 58; with_reducible exact Calls.quiet_of_same (impl_in_q _ _ _ _ _ I2.out))))
            go_wp2
            go_ret
            exact ⟨ret_b E.out, pw_below_drewN HV2.out _⟩
          | false =>
          have Z4 := Lib.hid hb4
          have HO := Lib.hid (show pairB gp l j = (decide (j = 0) || aheadP (rd_T33 l ((j - 1 : Nat) : Int)) (rd_T33 l (j : Nat))) by unfold pairB; rw [L0.out, L1.out, I2.out, Z3.out, Z4.out]; simp)
          by_cases hz : 0 < j
          rotate_left
          · have HS := Lib.hid (all_step HA.out (show pairB gp l j = true by rw [HO.out, decide_eq_true (show j = 0 by omega)]; rfl))
            have hz1 : decide ((0 : Int) < (j : Int)) = false := decide_eq_false (by omega)
            have hz2 : decide (0 < j) = false := decide_eq_false hz
            clear hz
            go_wp2
            go_quiet ((first | (go_at_call 37; with_reducible exact Calls.quiet_of_same (impl_letter_q _ _ _ L0.out)) | (go_at_call 37; with_reducible exact Calls.quiet_of_same (impl_letter_q _ _ _ L1.out)) | (go_at_call 58; with_reducible exact Calls.quiet_of_same (impl_in_q _ _ _ _ _ I2.out))))
            go_wp2
            go_roundw
            case measure => simp only [intOf]; omega
            case rel => exact ⟨j + 1, by omega, by go_num, HS, Lib.hid (pw_below_drewN HV3.out _)⟩
          have hz1 : decide ((0 : Int) < (j : Int)) = true := decide_eq_true (by omega)
          have hz2 : decide (0 < j) = true := decide_eq_true hz
          obtain ⟨ad3, ea, hp0, hp1, hp2⟩ := at_T33 (Kd.C_below HR.out HV2.out) ((j - 1 : Nat) : Int) (by omega) (by omega)
          cases ea
          simp only [Int.toNat_natCast] at hp0 hp1 hp2
          have e1 : (j : Int) - 1 = ((j - 1 : Nat) : Int) := by omega
          have v1 : IntKind.i64.wrap ((j : Int) - 1) = ((j - 1 : Nat) : Int) := by rw [← e1]; exact IntWalk.i64_in _ (by omega)
          have v2 : ((j - 1 : Nat) : Int) < (l.length : Int) := by omega
          obtain ⟨rc, hrc, hrd⟩ := comparePairs_val (rd_T33 l ((j - 1 : Nat) : Int)) (rd_T33 l (j : Nat))
          have HCP := Lib.hid (fun W => impl_comparePairs.calls 3 (rd_T33 l ((j - 1 : Nat) : Int)).f0 (rd_T33 l ((j - 1 : Nat) : Int)).f1 (rd_T33 l ((j - 1 : Nat) : Int)).f2 (rd_T33 l (j : Nat)).f0 (rd_T33 l (j : Nat)).f1 (rd_T33 l (j : Nat)).f2 rc W hrc)
          have HL0 := Lib.hid (letter_b _ _ L0.out)
          have HL1 := Lib.hid (letter_b _ _ L1.out)
          have HI2 := Lib.hid (in_b _ _ _ _ I2.out)
          clear hrc e1
          cases hah : aheadP (rd_T33 l ((j - 1 : Nat) : Int)) (rd_T33 l (j : Nat)) with
          | false =>
            rw [hah] at hrd
            have hrd2 : decide (0 ≤ rc) = true := hrd
            have E := Lib.hid (faceB_pair (ws := ws) (sp := sp) hlj (show pairB gp l j = false by rw [HO.out, hah, decide_eq_false (show ¬ j = 0 by omega)]; rfl))
            clear hah hrd
            go_wp2
            go_region_held3 (fun w' => w'.cell? ⟨w.heap.size, 27, none⟩ = some (.int .i8 gp) ∧ w'.cell? ⟨w.heap.size, 28, none⟩ = some (.slice (some ad) l.length c) ∧ w'.cell? (ad.add ((j - 1) * 3)) = some (.int .u8 (rd_T33 l ((j - 1 : Nat) : Int)).f0) ∧ w'.cell? ⟨(ad.add ((j - 1) * 3)).block, (ad.add ((j - 1) * 3)).off + 1, none⟩ = some (.int .u8 (rd_T33 l ((j - 1 : Nat) : Int)).f1) ∧ w'.cell? ⟨(ad.add ((j - 1) * 3)).block, (ad.add ((j - 1) * 3)).off + 2, none⟩ = some (.int .i8 (rd_T33 l ((j - 1 : Nat) : Int)).f2) ∧ w'.cell? ⟨wr.heap.size, 0, none⟩ = some (.int .u8 (rd_T33 l (j : Nat)).f0) ∧ w'.cell? ⟨wr.heap.size, 1, none⟩ = some (.int .u8 (rd_T33 l (j : Nat)).f1) ∧ w'.cell? ⟨wr.heap.size, 2, none⟩ = some (.int .i8 (rd_T33 l (j : Nat)).f2) ∧ RowKit.Hid (Below (w.alloc (.cells (FV ws sp gp (.slice (some ad) l.length c)) 28)).heap.size (w.alloc (.cells (FV ws sp gp (.slice (some ad) l.length c)) 28)) w'))
              (first | exact ⟨g27, g28, hp0, hp1, hp2, d0, d1, d2, Lib.hid (below_drew1 HV3.out)⟩ | exact keep8 (by assumption) hb)
              ((first | (go_at_call 37; with_reducible refine (HL0.out _).mono ?_; rintro e w' ⟨rfl, hb⟩) | (go_at_call 37; with_reducible refine (HL1.out _).mono ?_; rintro e w' ⟨rfl, hb⟩) | (go_at_call 58; with_reducible refine (HI2.out _).mono ?_; rintro e w' ⟨rfl, hb⟩) | (go_at_call 41; with_reducible refine (HCP.out _).mono ?_; rintro e w' ⟨rfl, hb⟩)))
            all_goals
              go_wp2
              go_ret
              exact ⟨ret_b E.out, below_step HB.out (heldB8 (by assumption))⟩
          | true =>
            rw [hah] at hrd
            have hrd2 : decide (0 ≤ rc) = false := hrd
            have HS := Lib.hid (all_step HA.out (show pairB gp l j = true by rw [HO.out, hah]; simp))
            have SZ := Lib.hid (show w.heap.size < wr.heap.size from blk_lt J0.out)
            clear hah hrd
            go_wp2
            go_region_held3 (fun w' => w'.cell? ⟨w.heap.size, 27, none⟩ = some (.int .i8 gp) ∧ w'.cell? ⟨w.heap.size, 28, none⟩ = some (.slice (some ad) l.length c) ∧ w'.cell? (ad.add ((j - 1) * 3)) = some (.int .u8 (rd_T33 l ((j - 1 : Nat) : Int)).f0) ∧ w'.cell? ⟨(ad.add ((j - 1) * 3)).block, (ad.add ((j - 1) * 3)).off + 1, none⟩ = some (.int .u8 (rd_T33 l ((j - 1 : Nat) : Int)).f1) ∧ w'.cell? ⟨(ad.add ((j - 1) * 3)).block, (ad.add ((j - 1) * 3)).off + 2, none⟩ = some (.int .i8 (rd_T33 l ((j - 1 : Nat) : Int)).f2) ∧ w'.cell? ⟨wr.heap.size, 0, none⟩ = some (.int .u8 (rd_T33 l (j : Nat)).f0) ∧ w'.cell? ⟨wr.heap.size, 1, none⟩ = some (.int .u8 (rd_T33 l (j : Nat)).f1) ∧ w'.cell? ⟨wr.heap.size, 2, none⟩ = some (.int .i8 (rd_T33 l (j : Nat)).f2) ∧ RowKit.Hid (Below (w.alloc (.cells (FV ws sp gp (.slice (some ad) l.length c)) 28)).heap.size (w.alloc (.cells (FV ws sp gp (.slice (some ad) l.length c)) 28)) w'))
              (first | exact ⟨g27, g28, hp0, hp1, hp2, d0, d1, d2, Lib.hid (below_drew1 HV3.out)⟩ | exact keep8 (by assumption) hb)
              ((first | (go_at_call 37; with_reducible refine (HL0.out _).mono ?_; rintro e w' ⟨rfl, hb⟩) | (go_at_call 37; with_reducible refine (HL1.out _).mono ?_; rintro e w' ⟨rfl, hb⟩) | (go_at_call 58; with_reducible refine (HI2.out _).mono ?_; rintro e w' ⟨rfl, hb⟩) | (go_at_call 41; with_reducible refine (HCP.out _).mono ?_; rintro e w' ⟨rfl, hb⟩)))
            all_goals
              go_wp2
              go_roundw
              case measure => simp only [intOf]; omega
              case rel => exact ⟨j + 1, by omega, by go_num, HS, Lib.hid (heldB8 (by assumption))⟩
        · have hlj2 : ¬ (j : Int) < (l.length : Int) := by omega
          have HPB := Lib.hid (show pairsB gp l = true by have := HA.out; rw [show j = l.length by omega] at this; exact this)
          have c26 := (blk_cell J0.out 26).trans (FV_26 ws HX.out _ _ _)
          have c27 := (blk_cell J0.out 27).trans (FV_27 ws HX.out _ _ _)
          have hsp := HF.out.sp
          have hgp := HF.out.gp
          have hw1 : IntKind.i64.wrap sp = sp := IntWalk.i64_in _ (by omega)
          have hw2 : IntKind.i64.wrap gp = gp := IntWalk.i64_in _ (by omega)
          cases hb : inB sp 1 40 with
          | false =>
            have E := Lib.hid (show faceB ws sp gp l = false by unfold faceB; rw [hb]; simp)
            have H1 := Lib.hid hb
            clear hb
            go_wp2_with (first | (go_at_call 58; with_reducible refine (impl_in_is sp 1 40 false _ H1.out).mono ?_; rintro e w' ⟨rfl, rfl⟩))
            go_ret
            exact ⟨ret_b E.out, HV.out⟩
          | true =>
            have H1 := Lib.hid hb
            clear hb
            obtain ⟨b, hb⟩ : ∃ b, inB gp 0 10 = b := ⟨_, rfl⟩
            have H2 := Lib.hid hb
            have E := Lib.hid (show faceB ws sp gp l = b by unfold faceB; rw [H1.out, hb, HWB.out, HPB.out]; simp)
            clear hb
            go_wp2_with (first | (go_at_call 58; with_reducible refine (impl_in_is sp 1 40 true _ H1.out).mono ?_; rintro e w' ⟨rfl, rfl⟩) | (go_at_call 58; with_reducible refine (impl_in_is gp 0 10 b _ H2.out).mono ?_; rintro e w' ⟨rfl, rfl⟩))
            go_ret
            exact ⟨ret_b E.out, HV.out⟩
end Go.Proofs.YtimkkjkgbbfgbaaGreatDoor.Q
