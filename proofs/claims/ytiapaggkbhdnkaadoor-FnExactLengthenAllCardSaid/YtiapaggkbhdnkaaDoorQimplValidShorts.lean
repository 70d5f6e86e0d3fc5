-- WRITTEN BY A PROGRAM OF THIS SESSION (xprint.py, which runs the kit's printer with changes). Lean checks it.
import Derived.Test.YtiapaggkbhdnkaaDoorQ0
import Derived.Test.YtiapaggkbhdnkaaDoorGlob
import Derived.Test.YtiapaggkbhdnkaaDoorQimplisWord
import Derived.Test.YtiapaggkbhdnkaaDoorQpureShorts
import Derived.Test.YtiapaggkbhdnkaaDoorQpureWord
import Derived.Test.YtiapaggkbhdnkaaDoorQdrewWord
import Derived.Lib.Hide
import Derived.Laws.Cover1
namespace Go.Proofs.YtiapaggkbhdnkaaDoor.Q
open Go.RowKit Go.Proofs.YtiapaggkbhdnkaaDoorW.PrintWords Go.Proofs.YtiapaggkbhdnkaaDoorW.PrintLast Go.Proofs.YtiapaggkbhdnkaaDoorW.PrintMore
set_option linter.unusedVariables false
set_option linter.unusedSimpArgs false
open Go.Proofs.YtiapaggkbhdnkaaDoor.Pure
attribute [local go_sem] max2_int min2_int max_two min_two max_three min_three max_four min_four   -- for this text's walks alone
/-! ### impl_ValidShorts: function 12 -/
def impl_ValidShorts.l0 : Nat → List (S51) → List (S51) → Int → Int → Option (Bool)
  | 0, _, _, _, _ => none
  | k + 1, x0, x5, x6, x7 => if x7 < x6 then (if 0 ≤ x7 then (if x7 < (x5.length : Int) then ((impl_isWord.f k ((rd_T51 x5 x7).f0)).bind fun t133 => (if t133 = true then ((impl_isWord.f k ((rd_T51 x5 x7).f1)).bind fun t134 => (if t134 = true then (if (((rd_T51 x5 x7).f0).size : Int) > 20 then (some false) else (if (((rd_T51 x5 x7).f1).size : Int) ≥ (((rd_T51 x5 x7).f0).size : Int) then (some false) else (if x7 > 0 then (if 0 ≤ (wrap64 (x7 - 1)) then (if (wrap64 (x7 - 1)) < (x0.length : Int) then (if ((Op.bytesLess (((rd_T51 x0 (wrap64 (x7 - 1))).f0).toList) (((rd_T51 x5 x7).f0).toList)) = true) then (impl_ValidShorts.l0 k x0 x5 x6 (wrap64 (x7 + 1))) else (some false)) else (none)) else (none)) else (impl_ValidShorts.l0 k x0 x5 x6 (wrap64 (x7 + 1)))))) else (some false))) else (some false))) else (none)) else (none)) else (some (decide ((x0.length : Int) ≤ 6)))
def impl_ValidShorts.f (k : Nat) (l0 : List (S51)) : Option (Bool) := impl_ValidShorts.l0 k l0 l0 (l0.length : Int) 0
theorem impl_ValidShorts.mono_l : ∀ k, (∀ y0 y1 y2 y3, LeO (impl_ValidShorts.l0 k y0 y1 y2 y3) (impl_ValidShorts.l0 (k + 1) y0 y1 y2 y3))
  | 0 => fun _ _ _ _ r h => by simp [impl_ValidShorts.l0] at h
  | k + 1 => by
    have ih0 := impl_ValidShorts.mono_l k
    · intro y0 y1 y2 y3
      unfold impl_ValidShorts.l0
      repeat' first
      | (with_reducible exact ih0 _ _ _ _)
      | (with_reducible exact impl_isWord.mono _ _)
      | (with_reducible exact LeO.refl _)
      | (with_reducible exact LeO.none _)
      | (with_reducible refine LeO.ite ?_ ?_)
      | (with_reducible refine LeO.bind ?_ (fun _ => ?_))
      | exact ih0 _ _ _ _
      | exact impl_isWord.mono _ _
      | exact LeO.none _
      | refine LeO.ite ?_ ?_
      | refine LeO.bind ?_ (fun _ => ?_)
theorem impl_ValidShorts.mono : ∀ a0 k, LeO (impl_ValidShorts.f k a0) (impl_ValidShorts.f (k + 1) a0) := by
  intro a0 k
  have ih0 := impl_ValidShorts.mono_l k
  unfold impl_ValidShorts.f
  repeat' first
      | (with_reducible exact ih0 _ _ _ _)
      | (with_reducible exact impl_isWord.mono _ _)
      | (with_reducible exact LeO.refl _)
      | (with_reducible exact LeO.none _)
      | (with_reducible refine LeO.ite ?_ ?_)
      | (with_reducible refine LeO.bind ?_ (fun _ => ?_))
      | exact ih0 _ _ _ _
      | exact impl_isWord.mono _ _
      | exact LeO.none _
      | refine LeO.ite ?_ ?_
      | refine LeO.bind ?_ (fun _ => ?_)
def okSh (x : ISh) : Bool := wordB x.f0 && wordB x.f1 && decide (x.f0.size ≤ 20) && decide (x.f1.size < x.f0.size)
def ordSh (l : List ISh) (i : Nat) : Bool := decide (i = 0) || Op.bytesLess ((rd_T51 l ((i - 1 : Nat) : Int)).f0).toList ((rd_T51 l (i : Nat)).f0).toList
def stSh (l : List ISh) (i : Nat) : Bool := okSh (rd_T51 l (i : Nat)) && ordSh l i
def shortsB (l : List ISh) : Bool := (List.range l.length).all (stSh l) && decide ((l.length : Int) ≤ 6)

theorem impl_ValidShorts.val (l : List ISh) (hl : l.length ≤ 9223372036854775807) (k : Nat) (hk : l.length + 61 < k) : impl_ValidShorts.f k l = some (shortsB l) := by
  unfold impl_ValidShorts.f shortsB
  refine scan_allM (n := l.length) (M := 61) (l := fun k i => impl_ValidShorts.l0 k l l (l.length : Int) i) (fun k i hi hM => ?_) (fun k hM => by simp [impl_ValidShorts.l0]) k hk
  have hw : i = 0 ∨ wrap64 ((i : Int) - 1) = ((i - 1 : Nat) : Int) := by
    by_cases h : i = 0
    · exact Or.inl h
    · exact Or.inr (by rw [wrap_id (by omega) (by omega)]; omega)
  simp only [impl_ValidShorts.l0]
  rw [if_pos (by omega), if_pos (by omega), if_pos (by omega), impl_isWord.valM _ k hM, impl_isWord.valM _ k hM]
  simp only [Option.bind_some]
  unfold stSh okSh ordSh
  generalize rd_T51 l (i : Nat) = x
  rcases x with ⟨a, b⟩
  dsimp only
  rw [wrap_succ hi (by omega)]
  cases wordB a
  · simp
  by_cases h1 : (a.size : Int) > 20
  · have : ¬ a.size ≤ 20 := by omega
    by_cases h60 : (a.size : Int) ≤ 60 <;> by_cases g60 : (b.size : Int) ≤ 60 <;> cases wordB b <;> simp [this, h60, g60, h1]
  · have h20 : a.size ≤ 20 := by omega
    have h60 : (a.size : Int) ≤ 60 := by omega
    by_cases h2 : (b.size : Int) ≥ (a.size : Int)
    · have : ¬ b.size < a.size := by omega
      by_cases g60 : (b.size : Int) ≤ 60 <;> cases wordB b <;> simp [this, h60, g60, h1, h2]
    · have h3 : b.size < a.size := by omega
      have g60 : (b.size : Int) ≤ 60 := by omega
      cases wordB b
      · simp
      rcases hw with rfl | hw
      · simp [h60, g60, h1, h2, h3, h20]
      · by_cases h0 : i = 0
        · subst h0
          simp [h60, g60, h1, h2, h3, h20]
        · rw [hw, if_pos (show (i : Int) > 0 by omega), if_pos (show (0 : Int) ≤ ((i - 1 : Nat) : Int) by omega), if_pos (show ((i - 1 : Nat) : Int) < (l.length : Int) by omega)]
          simp [h60, g60, h1, h2, h3, h20, h0]

theorem leq_less : ∀ (x y : List UInt8), (Op.bytesLess x y || x == y) = !Op.bytesLess y x
  | [], [] => by decide
  | [], b :: y => by simp [Op.bytesLess]
  | a :: x, [] => by simp [Op.bytesLess]
  | a :: x, b :: y => by
    have ih := leq_less x y
    simp only [Op.bytesLess]
    by_cases h : a = b
    · subst h
      simpa using ih
    · have h2 : ¬ b = a := fun e => h e.symm
      have h3 : a < b ∨ b < a := by
        rcases Nat.lt_trichotomy a.toNat b.toNat with h4 | h4 | h4
        · exact Or.inl (UInt8.lt_iff_toNat_lt.2 h4)
        · exact absurd (UInt8.toNat_inj.1 h4) h
        · exact Or.inr (UInt8.lt_iff_toNat_lt.2 h4)
      rcases h3 with h3 | h3
      · have h5 : ¬ b < a := fun h6 => by have := UInt8.lt_iff_toNat_lt.1 h3; have := UInt8.lt_iff_toNat_lt.1 h6; omega
        simp [h, h2, h3, h5]
      · have h5 : ¬ a < b := fun h6 => by have := UInt8.lt_iff_toNat_lt.1 h3; have := UInt8.lt_iff_toNat_lt.1 h6; omega
        simp [h, h2, h3, h5]
theorem sh_keep3 {W w' W0 : World} {a b : Addr} {u v : Value} (h : W.cell? a = some u ∧ W.cell? b = some v ∧ RowKit.Hid (Below W0.heap.size W0 W)) (hb : Below W.heap.size W w') :
    w'.cell? a = some u ∧ w'.cell? b = some v ∧ RowKit.Hid (Below W0.heap.size W0 w') := ⟨pw_cell_below hb h.1, pw_cell_below hb h.2.1, Lib.hid (below_step h.2.2.out hb)⟩
theorem sh_held3 {W W0 : World} {a b : Addr} {u v : Value} (h : W.cell? a = some u ∧ W.cell? b = some v ∧ RowKit.Hid (Below W0.heap.size W0 W)) : Below W0.heap.size W0 W := h.2.2.out
theorem sh_keep4 {W w' W0 : World} {a b c : Addr} {u v x : Value} (h : W.cell? a = some u ∧ W.cell? b = some v ∧ W.cell? c = some x ∧ RowKit.Hid (Below W0.heap.size W0 W)) (hb : Below W.heap.size W w') :
    w'.cell? a = some u ∧ w'.cell? b = some v ∧ w'.cell? c = some x ∧ RowKit.Hid (Below W0.heap.size W0 w') := ⟨pw_cell_below hb h.1, pw_cell_below hb h.2.1, pw_cell_below hb h.2.2.1, Lib.hid (below_step h.2.2.2.out hb)⟩
theorem sh_held4 {W W0 : World} {a b c : Addr} {u v x : Value} (h : W.cell? a = some u ∧ W.cell? b = some v ∧ W.cell? c = some x ∧ RowKit.Hid (Below W0.heap.size W0 W)) : Below W0.heap.size W0 W := h.2.2.2.out
theorem sh_ret {a b : Bool} (h : a = b) : Ending.returned (.bool a) = .returned (.bool b) := by rw [h]
theorem sh_step {p : Nat → Bool} {i : Nat} (h : (List.range i).all p = true) (hi : p i = true) : (List.range (i + 1)).all p = true := by
  rw [List.range_succ, List.all_append, h]
  simp [hi]
theorem sh_bad {l : List ISh} (j : Nat) (hj : j < l.length) (h : stSh l j = false) : shortsB l = false := by
  unfold shortsB
  rw [Bool.and_eq_false_iff]
  left
  rw [List.all_eq_false]
  exact ⟨j, List.mem_range.2 hj, by rw [h]; decide⟩
theorem impl_ValidShorts.is {l : List ISh} {k : Nat} {r : Bool} (hl : l.length ≤ 9223372036854775807) (h : impl_ValidShorts.f k l = some r) : shortsB l = r := by
  have h1 := at_rounds (impl_ValidShorts.mono l) (show k ≤ k + l.length + 62 by omega) h
  rw [impl_ValidShorts.val l hl _ (by omega)] at h1
  exact Option.some.inj h1
def w60 (x : ByteArray) : Bool := wordB x && decide ((x.size : Int) ≤ 60)
theorem sh_w60 {l : List ISh} {j : Nat} (h : w60 (rd_T51 l (j : Nat)).f0 = false) : stSh l j = false := by
  unfold stSh okSh
  unfold w60 at h
  rw [Bool.and_eq_false_iff, decide_eq_false_iff_not] at h
  by_cases h20 : (rd_T51 l (j : Nat)).f0.size ≤ 20
  · rcases h with h | h
    · simp [h]
    · exact absurd h (by omega)
  · simp [h20]
theorem sh_w61 {l : List ISh} {j : Nat} (h : w60 (rd_T51 l (j : Nat)).f1 = false) : stSh l j = false := by
  unfold stSh okSh
  unfold w60 at h
  rw [Bool.and_eq_false_iff, decide_eq_false_iff_not] at h
  by_cases h20 : (rd_T51 l (j : Nat)).f0.size ≤ 20
  · by_cases h21 : (rd_T51 l (j : Nat)).f1.size < (rd_T51 l (j : Nat)).f0.size
    · rcases h with h | h
      · simp [h]
      · exact absurd h (by omega)
    · simp [h21]
  · simp [h20]
theorem sh_ok {l : List ISh} {j : Nat} (h0 : w60 (rd_T51 l (j : Nat)).f0 = true) (h1 : w60 (rd_T51 l (j : Nat)).f1 = true) (h2 : (rd_T51 l (j : Nat)).f0.size ≤ 20) (h3 : (rd_T51 l (j : Nat)).f1.size < (rd_T51 l (j : Nat)).f0.size) : stSh l j = ordSh l j := by
  unfold stSh okSh
  unfold w60 at h0 h1
  rw [Bool.and_eq_true] at h0 h1
  rw [h0.1, h1.1, decide_eq_true h2, decide_eq_true h3]
  rfl

set_option maxHeartbeats 8000000 in
set_option maxRecDepth 100000 in
theorem impl_ValidShorts.calls (k : Nat) (A0 : Option Addr) (c0 : Nat) (l0 : List (S51)) (r : Bool) (w : World) (hG_ : Glob w) (hr0 : Kd.C k51 w A0 l0.length l0) (hc0 : l0.length ≤ c0) (h : impl_ValidShorts.f k l0 = some r) :
    Calls Tryd.prog 12 #[.slice A0 l0.length c0] w fun e w' => e = .returned (.bool r) ∧ Below w.heap.size w w' := by
  have hm := Kd.C_max hr0
  have R := Lib.hid (impl_ValidShorts.is hm h)
  clear h
  have HR := Lib.hid hr0
  have HG := Lib.hid hG_
  clear hr0 hG_
  go_enter Tryd.func12, Tryd.ntmps12
  go_wp2
  go_loopw [7] (fun i wr => ∃ j : Nat, j ≤ l0.length ∧ i = .int .i64 j ∧ RowKit.Hid ((List.range j).all (stSh l0) = true) ∧ RowKit.Hid (Below w.heap.size w wr)) (fun i _ => l0.length - (intOf i).toNat)
  case atStart => exact ⟨0, Nat.zero_le _, rfl, Lib.hid rfl, Lib.hid (Below.refl _ _)⟩
  case round =>
    obtain ⟨j, hj, rfl, HA, HW⟩ := hrel
    by_cases hlj : j < l0.length
    · have hlj2 : (j : Int) < (l0.length : Int) := by omega
      obtain ⟨ad, ea, hp, hq⟩ := at_T51 (Kd.C_below HR.out HW.out) (j : Nat) (by omega) (by omega)
      cases ea
      simp only [Int.toNat_natCast] at hp hq
      have HB2 := Lib.hid (below_alloc (Below.refl wr.heap.size wr) (.cells #[.string (rd_T51 l0 (j : Int)).f0, .string (rd_T51 l0 (j : Int)).f1] 51))
      have HX := Lib.hid (heap_alloc_new wr (.cells #[.string (rd_T51 l0 (j : Int)).f0, .string (rd_T51 l0 (j : Int)).f1] 51))
      have HW2 := Lib.hid (below_step HW.out HB2.out)
      have hd4 : (wr.alloc (.cells #[.string (rd_T51 l0 (j : Int)).f0, .string (rd_T51 l0 (j : Int)).f1] 51)).cell? ⟨wr.heap.size, 0, none⟩ = some (.string (rd_T51 l0 (j : Int)).f0) := (blk_cell HX.out 0).trans rfl
      have hd5 : (wr.alloc (.cells #[.string (rd_T51 l0 (j : Int)).f0, .string (rd_T51 l0 (j : Int)).f1] 51)).cell? ⟨wr.heap.size, 1, none⟩ = some (.string (rd_T51 l0 (j : Int)).f1) := (blk_cell HX.out 1).trans rfl
      have HI := Lib.hid (fun (x : ByteArray) (b : Bool) (hb : w60 x = b) (n : Nat) => impl_isWord.callsD 61 x b ((wr.alloc (.cells #[.string (rd_T51 l0 (j : Int)).f0, .string (rd_T51 l0 (j : Int)).f1] 51)).drewN n) (Glob.step HG.out (pw_below_drewN HW2.out n)) (by rw [← hb]; exact impl_isWord.valM x 61 (by omega)))
      cases b0 : w60 (rd_T51 l0 (j : Int)).f0 with
      | false =>
        have E := Lib.hid (sh_bad j hlj (sh_w60 b0))
        have HI0 := Lib.hid (HI.out _ _ b0)
        have HI1 := HI0
        clear b0
        go_wp2
        go_quiet ((first | (go_at_call 35; with_reducible exact Calls.quiet_of (HI0.out _)) | (go_at_call 35; with_reducible exact Calls.quiet_of (HI1.out _))))
        go_wp2
        go_ret
        exact ⟨sh_ret (E.out.symm.trans R.out), pw_below_drewN HW2.out _⟩
      | true =>
      have HI0 := Lib.hid (HI.out _ _ b0)
      have B0 := Lib.hid b0
      clear b0
      cases b1 : w60 (rd_T51 l0 (j : Int)).f1 with
      | false =>
        have E := Lib.hid (sh_bad j hlj (sh_w61 b1))
        have HI1 := Lib.hid (HI.out _ _ b1)
        clear b1
        go_wp2
        go_quiet ((first | (go_at_call 35; with_reducible exact Calls.quiet_of (HI0.out _)) | (go_at_call 35; with_reducible exact Calls.quiet_of (HI1.out _))))
        go_wp2
        go_ret
        exact ⟨sh_ret (E.out.symm.trans R.out), pw_below_drewN HW2.out _⟩
      | true =>
      have HI1 := Lib.hid (HI.out _ _ b1)
      have B1 := Lib.hid b1
      clear b1
      by_cases s0 : (rd_T51 l0 (j : Int)).f0.size ≤ 20
      rotate_left
      · have E := Lib.hid (sh_bad (l := l0) j hlj (by unfold stSh okSh; simp [s0]))
        have s0a : decide (20 < ((rd_T51 l0 (j : Int)).f0.size : Int)) = true := decide_eq_true (by omega)
        have s0b : decide (20 < (rd_T51 l0 (j : Int)).f0.size) = true := decide_eq_true (by omega)
        clear s0
        go_wp2
        go_quiet ((first | (go_at_call 35; with_reducible exact Calls.quiet_of (HI0.out _)) | (go_at_call 35; with_reducible exact Calls.quiet_of (HI1.out _))))
        go_wp2
        go_ret
        exact ⟨sh_ret (E.out.symm.trans R.out), pw_below_drewN HW2.out _⟩
      have s0a : decide (20 < ((rd_T51 l0 (j : Int)).f0.size : Int)) = false := decide_eq_false (by omega)
      have s0b : decide (20 < (rd_T51 l0 (j : Int)).f0.size) = false := decide_eq_false (by omega)
      have S0 := Lib.hid s0
      clear s0
      by_cases s1 : (rd_T51 l0 (j : Int)).f1.size < (rd_T51 l0 (j : Int)).f0.size
      rotate_left
      · have E := Lib.hid (sh_bad (l := l0) j hlj (by unfold stSh okSh; simp [s1]))
        have s1a : decide (((rd_T51 l0 (j : Int)).f0.size : Int) ≤ ((rd_T51 l0 (j : Int)).f1.size : Int)) = true := decide_eq_true (by omega)
        have s1b : decide ((rd_T51 l0 (j : Int)).f0.size ≤ (rd_T51 l0 (j : Int)).f1.size) = true := decide_eq_true (by omega)
        clear s1
        go_wp2
        go_quiet ((first | (go_at_call 35; with_reducible exact Calls.quiet_of (HI0.out _)) | (go_at_call 35; with_reducible exact Calls.quiet_of (HI1.out _))))
        go_wp2
        go_ret
        exact ⟨sh_ret (E.out.symm.trans R.out), pw_below_drewN HW2.out _⟩
      have s1a : decide (((rd_T51 l0 (j : Int)).f0.size : Int) ≤ ((rd_T51 l0 (j : Int)).f1.size : Int)) = false := decide_eq_false (by omega)
      have s1b : decide ((rd_T51 l0 (j : Int)).f0.size ≤ (rd_T51 l0 (j : Int)).f1.size) = false := decide_eq_false (by omega)
      have HO := Lib.hid (sh_ok B0.out B1.out S0.out s1)
      clear s1
      by_cases hz : 0 < j
      rotate_left
      · have HS := Lib.hid (sh_step HA.out (show stSh l0 j = true by rw [HO.out]; unfold ordSh; rw [decide_eq_true (show j = 0 by omega)]; rfl))
        have hz1 : decide ((0 : Int) < (j : Int)) = false := decide_eq_false (by omega)
        have hz2 : decide (0 < j) = false := decide_eq_false hz
        clear hz
        go_wp2
        go_quiet ((first | (go_at_call 35; with_reducible exact Calls.quiet_of (HI0.out _)) | (go_at_call 35; with_reducible exact Calls.quiet_of (HI1.out _))))
        go_wp2
        go_roundw
        case measure => simp only [intOf]; omega
        case rel => exact ⟨j + 1, by omega, by go_num, HS, Lib.hid (pw_below_drewN HW2.out _)⟩
      have hz1 : decide ((0 : Int) < (j : Int)) = true := decide_eq_true (by omega)
      have hz2 : decide (0 < j) = true := decide_eq_true hz
      obtain ⟨ad3, ea, hp1, hq1⟩ := at_T51 (Kd.C_below HR.out HW2.out) ((j - 1 : Nat) : Int) (by omega) (by omega)
      cases ea
      simp only [Int.toNat_natCast] at hp1
      have hp2 := hp1
      have e1 : (j : Int) - 1 = ((j - 1 : Nat) : Int) := by omega
      have v1 : IntKind.i64.wrap ((j : Int) - 1) = ((j - 1 : Nat) : Int) := by rw [← e1]; exact IntWalk.i64_in _ (by omega)
      have v2 : ((j - 1 : Nat) : Int) < (l0.length : Int) := by omega
      clear e1 hq1
      cases ho : Op.bytesLess ((rd_T51 l0 ((j - 1 : Nat) : Int)).f0).toList ((rd_T51 l0 (j : Int)).f0).toList with
      | false =>
        have E := Lib.hid (sh_bad (l := l0) j hlj (by rw [HO.out]; unfold ordSh; rw [ho, decide_eq_false (show ¬ j = 0 by omega)]; rfl))
        have hle := leq_less ((rd_T51 l0 (j : Int)).f0).toList ((rd_T51 l0 ((j - 1 : Nat) : Int)).f0).toList
        rw [ho, Bool.not_false] at hle
        go_wp2
        go_quiet ((first | (go_at_call 35; with_reducible exact Calls.quiet_of (HI0.out _)) | (go_at_call 35; with_reducible exact Calls.quiet_of (HI1.out _))))
        go_wp2
        go_ret
        exact ⟨sh_ret (E.out.symm.trans R.out), pw_below_drewN HW2.out _⟩
      | true =>
        have HS := Lib.hid (sh_step HA.out (show stSh l0 j = true by rw [HO.out]; unfold ordSh; rw [ho]; simp))
        have hle := leq_less ((rd_T51 l0 (j : Int)).f0).toList ((rd_T51 l0 ((j - 1 : Nat) : Int)).f0).toList
        rw [ho, Bool.not_true] at hle
        go_wp2
        go_quiet ((first | (go_at_call 35; with_reducible exact Calls.quiet_of (HI0.out _)) | (go_at_call 35; with_reducible exact Calls.quiet_of (HI1.out _))))
        go_wp2
        go_roundw
        case measure => simp only [intOf]; omega
        case rel => exact ⟨j + 1, by omega, by go_num, HS, Lib.hid (pw_below_drewN HW2.out _)⟩
    · have hlj2 : ¬ (j : Int) < (l0.length : Int) := by omega
      have E := Lib.hid (show shortsB l0 = decide ((l0.length : Int) ≤ 6) by have := HA.out; rw [show j = l0.length by omega] at this; unfold shortsB; rw [this]; rfl)
      go_wp2
      go_ret
      exact ⟨sh_ret (E.out.symm.trans R.out), HW.out⟩
end Go.Proofs.YtiapaggkbhdnkaaDoor.Q
