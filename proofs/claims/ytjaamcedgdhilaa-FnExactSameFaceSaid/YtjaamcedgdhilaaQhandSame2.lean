/- impl.SameFace, spec.SameFace, by hand. -/
import Derived.Test.YtjaamcedgdhilaaQhandSame
import Derived.Test.YtjaamcedgdhilaaQEq46
namespace Go.Proofs.Ytjaamcedgdhilaa.Q
open Go.RowKit Go.Proofs.YtjaamcedgdhilaaW.PrintWords Go.Proofs.YtjaamcedgdhilaaW.PrintLast Go.Proofs.YtjaamcedgdhilaaW.PrintMore
open Go.Proofs.Ytjaamcedgdhilaa.Pure
set_option linter.unusedVariables false
set_option linter.unusedSimpArgs false
attribute [local go_sem high] eqA46

theorem list26 (xs : List Int) (hx : xs.length = 26) : ∃ x0  x1  x2  x3  x4  x5  x6  x7  x8  x9  x10  x11  x12  x13  x14  x15  x16  x17  x18  x19  x20  x21  x22  x23  x24  x25 : Int, xs = [x0, x1, x2, x3, x4, x5, x6, x7, x8, x9, x10, x11, x12, x13, x14, x15, x16, x17, x18, x19, x20, x21, x22, x23, x24, x25] :=
  match xs, hx with
  | [x0, x1, x2, x3, x4, x5, x6, x7, x8, x9, x10, x11, x12, x13, x14, x15, x16, x17, x18, x19, x20, x21, x22, x23, x24, x25], _ => ⟨x0, x1, x2, x3, x4, x5, x6, x7, x8, x9, x10, x11, x12, x13, x14, x15, x16, x17, x18, x19, x20, x21, x22, x23, x24, x25, rfl⟩
theorem eqAabs (d : Nat) (xs ys : List Int) (hx : xs.length = 26) (hy : ys.length = 26) (w : World) :
    (Op.equalIn (d + 2) 23 (.agg (arr8 xs)) (.agg (arr8 ys))).run Try.prog w = .ok (decide (xs = ys)) w := by
  obtain ⟨x0, x1, x2, x3, x4, x5, x6, x7, x8, x9, x10, x11, x12, x13, x14, x15, x16, x17, x18, x19, x20, x21, x22, x23, x24, x25, rfl⟩ := list26 xs hx
  obtain ⟨y0, y1, y2, y3, y4, y5, y6, y7, y8, y9, y10, y11, y12, y13, y14, y15, y16, y17, y18, y19, y20, y21, y22, y23, y24, y25, rfl⟩ := list26 ys hy
  rw [show arr8 [x0, x1, x2, x3, x4, x5, x6, x7, x8, x9, x10, x11, x12, x13, x14, x15, x16, x17, x18, x19, x20, x21, x22, x23, x24, x25] = #[Value.int .i8 x0, Value.int .i8 x1, Value.int .i8 x2, Value.int .i8 x3, Value.int .i8 x4, Value.int .i8 x5, Value.int .i8 x6, Value.int .i8 x7, Value.int .i8 x8, Value.int .i8 x9, Value.int .i8 x10, Value.int .i8 x11, Value.int .i8 x12, Value.int .i8 x13, Value.int .i8 x14, Value.int .i8 x15, Value.int .i8 x16, Value.int .i8 x17, Value.int .i8 x18, Value.int .i8 x19, Value.int .i8 x20, Value.int .i8 x21, Value.int .i8 x22, Value.int .i8 x23, Value.int .i8 x24, Value.int .i8 x25] from rfl, show arr8 [y0, y1, y2, y3, y4, y5, y6, y7, y8, y9, y10, y11, y12, y13, y14, y15, y16, y17, y18, y19, y20, y21, y22, y23, y24, y25] = #[Value.int .i8 y0, Value.int .i8 y1, Value.int .i8 y2, Value.int .i8 y3, Value.int .i8 y4, Value.int .i8 y5, Value.int .i8 y6, Value.int .i8 y7, Value.int .i8 y8, Value.int .i8 y9, Value.int .i8 y10, Value.int .i8 y11, Value.int .i8 y12, Value.int .i8 y13, Value.int .i8 y14, Value.int .i8 y15, Value.int .i8 y16, Value.int .i8 y17, Value.int .i8 y18, Value.int .i8 y19, Value.int .i8 y20, Value.int .i8 y21, Value.int .i8 y22, Value.int .i8 y23, Value.int .i8 y24, Value.int .i8 y25] from rfl, eqA23]
  congr 1
  rw [Bool.eq_iff_iff]
  simp

theorem guard23 (op : BinOp) (x y : Operand) (a b : Array Value) (w : World) : (eqGuard op 23 x y (.agg a) (.agg b)).run Try.prog w = .ok () w := by
  have h : Try.prog.eqGuardType Try.prog.depth 23 = false := by kernel_rfl
  cases op <;> simp [eqGuard, h, Sem.run_bind, Result.andThen]

theorem slices_Equal_impl_Pair.val (l m : List S46) (hl : l.length ≤ 1048576) (k : Nat) (hk : l.length < k) : slices_Equal_impl_Pair.f k l m = some (decide (l = m)) := by
  unfold slices_Equal_impl_Pair.f
  by_cases h : l.length = m.length
  · rw [if_pos (by omega)]
    have := scan_all (n := l.length) (l := fun k i => slices_Equal_impl_Pair.l0 k l m (l.length : Int) i) (p := fun i => decide (rd_T46 l (i : Nat) = rd_T46 m (i : Nat))) (b := true) (fun k i hi => ?_) (fun k => by simp [slices_Equal_impl_Pair.l0]) k hk
    · rw [all_eq_get l m h _ (fun i hi => by rw [rd46_get _ _ hi, rd46_get m i (by omega)]), Bool.and_true] at this
      exact this
    · simp only [slices_Equal_impl_Pair.l0]
      rw [if_pos (by omega), if_pos (by omega), if_pos (by omega), if_pos (by omega), wrap_succ hi (by omega)]
      generalize rd_T46 l (i : Nat) = a
      generalize rd_T46 m (i : Nat) = b
      obtain ⟨a0, a1, a2⟩ := a
      obtain ⟨b0, b1, b2⟩ := b
      by_cases h0 : a0 = b0 <;> by_cases h1 : a1 = b1 <;> by_cases h2 : a2 = b2 <;> simp [h0, h1, h2]
  · rw [if_neg (by omega), decide_eq_false (fun e => h (by rw [e]))]

def sameB (ws : List Int) (sp gp : Int) (l : List S46) (ws' : List Int) (sp' gp' : Int) (l' : List S46) : Bool := decide (ws = ws') && decide (sp = sp') && decide (gp = gp') && decide (l = l')

set_option maxHeartbeats 4000000 in
set_option maxRecDepth 100000 in
theorem implSameC (ws ws' : List Int) (hx : ws.length = 26) (hx' : ws'.length = 26) (sp gp sp' gp' : Int) (A B : Option Addr) (c d : Nat) (l l' : List S46) (w : World) (hr : Kd.C k46 w A l.length l) (hc : l.length ≤ c) (hr' : Kd.C k46 w B l'.length l') (hd : l'.length ≤ d) (hl : l.length ≤ 1048576) :
    Calls Try.prog 14 #[.agg (FV ws sp gp (.slice A l.length c)), .agg (FV ws' sp' gp' (.slice B l'.length d))] w fun e w' => e = .returned (.bool (sameB ws sp gp l ws' sp' gp' l')) ∧ Below w.heap.size w w' := by
  go_enter Try.func14, Try.ntmps14
  obtain ⟨N, hN⟩ : ∃ N : Nat, N = 26 := ⟨_, rfl⟩
  obtain ⟨T, hT⟩ : ∃ T : TypeId, T = 23 := ⟨_, rfl⟩
  have hz : ∀ w, (sizeOf T).run Try.prog w = .ok N w := fun w => by rw [hN, hT]; exact Try.sizeOf23 w
  have ha : ∀ w, (isAgg T).run Try.prog w = .ok true w := fun w => by rw [hT]; exact Try.isAgg23 w
  have e1 : ∀ x, Op.load 23 x = Op.load T x := fun x => by rw [hT]
  have e2 : ∀ o x y, Op.binOp o 23 x y 23 = Op.binOp o T x y T := fun o x y => by rw [hT]
  simp only [e1, e2]
  clear e1 e2
  have HN := Lib.hid hN
  have HX := Lib.hid hx
  have HX' := Lib.hid hx'
  have HR := Lib.hid hr
  have HR' := Lib.hid hr'
  have HC := Lib.hid hc
  have HD := Lib.hid hd
  have HL := Lib.hid hl
  have hq0 := Lib.hid (fun (d : Nat) (w : World) => (show (Op.equalIn (d + 2) T (.agg (arr8 ws)) (.agg (arr8 ws'))).run Try.prog w = .ok (decide (ws = ws')) w by rw [hT]; exact eqAabs d ws ws' hx hx' w))
  have hgd : ∀ (op : BinOp) (x y : Operand) (a b : Array Value) (w : World), (eqGuard op T x y (.agg a) (.agg b)).run Try.prog w = .ok () w := fun op x y a b w => by rw [hT]; exact guard23 op x y a b w
  clear hT hN hr hc hr' hd hl hx hx'
  have H2 := Lib.hid (two_blocks w (.cells (FV ws sp gp (.slice A l.length c)) 31) (.cells (FV ws' sp' gp' (.slice B l'.length d)) 31))
  have HB := Lib.hid (below_alloc (below_alloc (Below.refl _ w) (.cells (FV ws sp gp (.slice A l.length c)) 31)) (.cells (FV ws' sp' gp' (.slice B l'.length d)) 31))
  have hL0 := loadA H2.out.1 HX.out HN.out
  have hL1 := loadA H2.out.2 HX'.out HN.out
  have c26 := (blk_cell H2.out.1 26).trans (FV_26 ws HX.out _ _ _)
  have c27 := (blk_cell H2.out.1 27).trans (FV_27 ws HX.out _ _ _)
  have c28 := (blk_cell H2.out.1 28).trans (FV_28 ws HX.out _ _ _)
  have d26 := (blk_cell H2.out.2 26).trans (FV_26 ws' HX'.out _ _ _)
  have d27 := (blk_cell H2.out.2 27).trans (FV_27 ws' HX'.out _ _ _)
  have d28 := (blk_cell H2.out.2 28).trans (FV_28 ws' HX'.out _ _ _)
  by_cases h1 : ws = ws'
  · have hq : ∀ (d : Nat) (w : World), (Op.equalIn (d + 2) T (.agg (arr8 ws)) (.agg (arr8 ws'))).run Try.prog w = .ok true w := fun d w => (hq0.out d w).trans (by rw [decide_eq_true h1])
    have E1 := Lib.hid (decide_eq_true h1)
    clear h1
    by_cases h2 : sp = sp'
    · have t2 : (sp == sp') = true := by simpa using h2
      have E2 := Lib.hid (decide_eq_true h2)
      clear h2
      by_cases h3 : gp = gp'
      · have t3 : (gp == gp') = true := by simpa using h3
        have E3 := Lib.hid (decide_eq_true h3)
        clear h3
        obtain ⟨b, hb0⟩ : ∃ b, b = decide (l = l') := ⟨_, rfl⟩
        have HE := Lib.hid hb0
        clear hb0
        go_wp2_with (first
          | (go_at_call 31
             with_reducible refine (slices_Equal_impl_Pair.calls (l.length + 1) A c l B d l' b _ (Kd.C_below HR.out HB.out) HC.out (Kd.C_below HR'.out HB.out) HD.out (by rw [HE.out]; exact slices_Equal_impl_Pair.val l l' HL.out _ (by omega))).mono ?_
             rintro e w7 ⟨rfl, ⟨nd, rfl⟩⟩))
        go_ret
        exact ⟨by unfold sameB; rw [E1.out, E2.out, E3.out, ← HE.out]; rfl, pw_below_drewN HB.out _⟩
      · have t3 : (gp == gp') = false := by simpa using h3
        have E3 := Lib.hid (decide_eq_false h3)
        clear h3
        go_wp2
        go_ret
        exact ⟨by unfold sameB; rw [E1.out, E2.out, E3.out]; rfl, HB.out⟩
    · have t2 : (sp == sp') = false := by simpa using h2
      have E2 := Lib.hid (decide_eq_false h2)
      clear h2
      go_wp2
      go_ret
      exact ⟨by unfold sameB; rw [E1.out, E2.out]; rfl, HB.out⟩
  · have hq : ∀ (d : Nat) (w : World), (Op.equalIn (d + 2) T (.agg (arr8 ws)) (.agg (arr8 ws'))).run Try.prog w = .ok false w := fun d w => (hq0.out d w).trans (by rw [decide_eq_false h1])
    have E1 := Lib.hid (decide_eq_false h1)
    clear h1
    go_wp2
    go_ret
    exact ⟨by unfold sameB; rw [E1.out]; rfl, HB.out⟩

set_option maxHeartbeats 4000000 in
set_option maxRecDepth 100000 in
theorem specSameC (ws ws' : List Int) (hx : ws.length = 26) (hx' : ws'.length = 26) (sp gp sp' gp' : Int) (A B : Option Addr) (c d : Nat) (l l' : List S46) (w : World) (hr : Kd.C k46 w A l.length l) (hc : l.length ≤ c) (hr' : Kd.C k46 w B l'.length l') (hd : l'.length ≤ d) (hl : l.length ≤ 1048576) :
    Calls Try.prog 13 #[.agg (FV ws sp gp (.slice A l.length c)), .agg (FV ws' sp' gp' (.slice B l'.length d))] w fun e w' => e = .returned (.bool (sameB ws sp gp l ws' sp' gp' l')) ∧ Below w.heap.size w w' := by
  go_enter Try.func13, Try.ntmps13
  obtain ⟨N, hN⟩ : ∃ N : Nat, N = 26 := ⟨_, rfl⟩
  obtain ⟨T, hT⟩ : ∃ T : TypeId, T = 23 := ⟨_, rfl⟩
  have hz : ∀ w, (sizeOf T).run Try.prog w = .ok N w := fun w => by rw [hN, hT]; exact Try.sizeOf23 w
  have ha : ∀ w, (isAgg T).run Try.prog w = .ok true w := fun w => by rw [hT]; exact Try.isAgg23 w
  have e1 : ∀ x, Op.load 23 x = Op.load T x := fun x => by rw [hT]
  have e2 : ∀ o x y, Op.binOp o 23 x y 23 = Op.binOp o T x y T := fun o x y => by rw [hT]
  simp only [e1, e2]
  clear e1 e2
  have HN := Lib.hid hN
  have HX := Lib.hid hx
  have HX' := Lib.hid hx'
  have HR := Lib.hid hr
  have HR' := Lib.hid hr'
  have HC := Lib.hid hc
  have HD := Lib.hid hd
  have HL := Lib.hid hl
  have hq0 := Lib.hid (fun (d : Nat) (w : World) => (show (Op.equalIn (d + 2) T (.agg (arr8 ws)) (.agg (arr8 ws'))).run Try.prog w = .ok (decide (ws = ws')) w by rw [hT]; exact eqAabs d ws ws' hx hx' w))
  have hgd : ∀ (op : BinOp) (x y : Operand) (a b : Array Value) (w : World), (eqGuard op T x y (.agg a) (.agg b)).run Try.prog w = .ok () w := fun op x y a b w => by rw [hT]; exact guard23 op x y a b w
  clear hT hN hr hc hr' hd hl hx hx'
  have H2 := Lib.hid (two_blocks w (.cells (FV ws sp gp (.slice A l.length c)) 31) (.cells (FV ws' sp' gp' (.slice B l'.length d)) 31))
  have HB := Lib.hid (below_alloc (below_alloc (Below.refl _ w) (.cells (FV ws sp gp (.slice A l.length c)) 31)) (.cells (FV ws' sp' gp' (.slice B l'.length d)) 31))
  have hL0 := loadA H2.out.1 HX.out HN.out
  have hL1 := loadA H2.out.2 HX'.out HN.out
  have c26 := (blk_cell H2.out.1 26).trans (FV_26 ws HX.out _ _ _)
  have c27 := (blk_cell H2.out.1 27).trans (FV_27 ws HX.out _ _ _)
  have c28 := (blk_cell H2.out.1 28).trans (FV_28 ws HX.out _ _ _)
  have d26 := (blk_cell H2.out.2 26).trans (FV_26 ws' HX'.out _ _ _)
  have d27 := (blk_cell H2.out.2 27).trans (FV_27 ws' HX'.out _ _ _)
  have d28 := (blk_cell H2.out.2 28).trans (FV_28 ws' HX'.out _ _ _)
  by_cases h1 : ws = ws'
  · have hq : ∀ (d : Nat) (w : World), (Op.equalIn (d + 2) T (.agg (arr8 ws)) (.agg (arr8 ws'))).run Try.prog w = .ok true w := fun d w => (hq0.out d w).trans (by rw [decide_eq_true h1])
    have E1 := Lib.hid (decide_eq_true h1)
    clear h1
    by_cases h2 : sp = sp'
    · have t2 : (sp != sp') = false := by simpa using h2
      have E2 := Lib.hid (decide_eq_true h2)
      clear h2
      by_cases h3 : gp = gp'
      · have t3 : (gp != gp') = false := by simpa using h3
        have E3 := Lib.hid (decide_eq_true h3)
        clear h3
        by_cases h4 : l.length = l'.length
        · have t4 : ((l.length : Int) != (l'.length : Int)) = false := bne_eq_false_iff_eq.2 (by omega)
          have E4 := Lib.hid h4
          clear h4
          go_wp2
          go_loopw [5] (fun i wr => ∃ k : Nat, k ≤ l.length ∧ i = .int .i64 k ∧ RowKit.Hid (wr.heap[w.heap.size]? = some (.cells (FV ws sp gp (.slice A l.length c)) 31) ∧ wr.heap[w.heap.size + 1]? = some (.cells (FV ws' sp' gp' (.slice B l'.length d)) 31)) ∧ RowKit.Hid (Below w.heap.size w wr) ∧ RowKit.Hid (∀ j, j < k → rd_T46 l (j : Nat) = rd_T46 l' (j : Nat))) (fun i _ => l.length - (intOf i).toNat)
          case atStart => exact ⟨0, Nat.zero_le _, rfl, H2, HB, Lib.hid fun j hj => absurd hj (Nat.not_lt_zero _)⟩
          case round =>
            clear c26 c27 c28 d26 d27 d28 hL0 hL1
            obtain ⟨k, hk, rfl, K, KB, KE⟩ := hrel
            have c28 := (blk_cell K.out.1 28).trans (FV_28 ws HX.out _ _ _)
            have d28 := (blk_cell K.out.2 28).trans (FV_28 ws' HX'.out _ _ _)
            by_cases hlt : k < l.length
            · have hlt2 : (k : Int) < (l.length : Int) := by omega
              have hlt3 : (k : Int) < (l'.length : Int) := by have := E4.out; omega
              have hbl : (l.length : Int) ≤ 1048576 := by have := HL.out; omega
              obtain ⟨ad0, rfl, hx0, hx1, hx2⟩ := at_T46 (Kd.C_below HR.out KB.out) (k : Int) (by omega) (by omega)
              obtain ⟨ad1, rfl, hy0, hy1, hy2⟩ := at_T46 (Kd.C_below HR'.out KB.out) (k : Int) (by omega) (by omega)
              simp only [Int.toNat_natCast] at hx0 hx1 hx2 hy0 hy1 hy2
              by_cases e : rd_T46 l (k : Nat) = rd_T46 l' (k : Nat)
              · have E := Lib.hid e
                have ht : ((rd_T46 l (k : Nat)).f0 == (rd_T46 l' (k : Nat)).f0 && ((rd_T46 l (k : Nat)).f1 == (rd_T46 l' (k : Nat)).f1 && (rd_T46 l (k : Nat)).f2 == (rd_T46 l' (k : Nat)).f2)) = true := by rw [e]; simp
                clear e
                go_wp2
                go_region
                all_goals
                  go_wp2
                  go_roundw
                  case measure => simp only [intOf]; omega
                  case rel => exact ⟨k + 1, by omega, by go_num, Lib.hid ⟨K.out.1, K.out.2⟩, Lib.hid (by first | exact KB.out | exact below_drew1 KB.out | exact pw_below_drewN KB.out _), Lib.hid fun j hj => (by
                    by_cases h : j < k
                    · exact KE.out j h
                    · obtain rfl : j = k := by omega
                      exact E.out)⟩
              · have E := Lib.hid e
                have ht : ((rd_T46 l (k : Nat)).f0 == (rd_T46 l' (k : Nat)).f0 && ((rd_T46 l (k : Nat)).f1 == (rd_T46 l' (k : Nat)).f1 && (rd_T46 l (k : Nat)).f2 == (rd_T46 l' (k : Nat)).f2)) = false := by
                  rw [Bool.eq_false_iff]
                  intro h
                  simp only [Bool.and_eq_true, beq_iff_eq] at h
                  apply e
                  revert h
                  generalize rd_T46 l (k : Nat) = p
                  generalize rd_T46 l' (k : Nat) = q
                  intro h
                  cases p
                  cases q
                  obtain ⟨rfl, rfl, rfl⟩ := h
                  rfl
                clear e
                go_wp2
                go_region
                all_goals
                  go_wp2
                  go_ret
                  exact ⟨by unfold sameB; rw [decide_eq_false (fun h : l = l' => E.out (by rw [h]))]; simp, by first | exact KB.out | exact below_drew1 KB.out | exact pw_below_drewN KB.out _⟩
            · have hlt2 : ¬ (k : Int) < (l.length : Int) := by omega
              have E := Lib.hid (show k = l.length by omega)
              clear hk hlt
              go_wp2
              go_ret
              have heq : l = l' := by
                refine List.ext_getElem E4.out fun j h1 h2 => ?_
                have := KE.out j (by rw [E.out]; exact h1)
                rw [rd46_get _ _ h1, rd46_get _ _ h2] at this
                exact this
              exact ⟨by unfold sameB; rw [E1.out, E2.out, E3.out, decide_eq_true heq]; rfl, KB.out⟩
        · have t4 : ((l.length : Int) != (l'.length : Int)) = true := bne_iff_ne.2 (by omega)
          have E4 := Lib.hid (decide_eq_false (fun e : l = l' => h4 (by rw [e])))
          clear h4
          go_wp2
          go_ret
          exact ⟨by unfold sameB; rw [E1.out, E2.out, E3.out, E4.out]; rfl, HB.out⟩
      · have t3 : (gp != gp') = true := by simpa using h3
        have E3 := Lib.hid (decide_eq_false h3)
        clear h3
        go_wp2
        go_ret
        exact ⟨by unfold sameB; rw [E1.out, E2.out, E3.out]; rfl, HB.out⟩
    · have t2 : (sp != sp') = true := by simpa using h2
      have E2 := Lib.hid (decide_eq_false h2)
      clear h2
      go_wp2
      go_ret
      exact ⟨by unfold sameB; rw [E1.out, E2.out]; rfl, HB.out⟩
  · have hq : ∀ (d : Nat) (w : World), (Op.equalIn (d + 2) T (.agg (arr8 ws)) (.agg (arr8 ws'))).run Try.prog w = .ok false w := fun d w => (hq0.out d w).trans (by rw [decide_eq_false h1])
    have E1 := Lib.hid (decide_eq_false h1)
    clear h1
    go_wp2
    go_ret
    exact ⟨by unfold sameB; rw [E1.out]; rfl, HB.out⟩
end Go.Proofs.Ytjaamcedgdhilaa.Q
