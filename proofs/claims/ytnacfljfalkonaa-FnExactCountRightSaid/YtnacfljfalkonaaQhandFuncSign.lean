/- impl.ValidSystem by hand, with slices.ContainsFunc over signs: it answers whether a system is valid. -/
import Derived.Test.YtnacfljfalkonaaQpureValid
import Derived.Test.YtnacfljfalkonaaQCmp
import Derived.Outline
import Derived.Lib.Hide
import Derived.Shelf.Abstract
import Derived.BigRegion
import Derived.Deep.QuietTactic
import Derived.Deep.RegionWith
import Derived.BigQuiet
import Derived.IntWalk
namespace Go.Proofs.Ytnacfljfalkonaa.Q
open Go.RowKit Go.Proofs.YtnacfljfalkonaaW.PrintWords Go.Proofs.YtnacfljfalkonaaW.PrintLast Go.Proofs.YtnacfljfalkonaaW.PrintMore
open Go.Proofs.Ytnacfljfalkonaa.Pure
set_option linter.unusedVariables false

/-- Where a search that has met no hit ends. -/
def firstAt {α : Type} (p : α → Bool) : List α → Nat → Int
  | [], _ => -1
  | x :: xs, k => if p x then k else firstAt p xs (k + 1)

theorem firstAt_hit {α : Type} (p : α → Bool) (xs : List α) (k : Nat) (h : k < xs.length) (hn : (xs.take k).any p = false) (hp : p xs[k] = true) (j : Nat) : firstAt p xs j = ((k + j : Nat) : Int) := by
  induction k generalizing xs j with
  | zero => cases xs with
    | nil => simp at h
    | cons x xs => simp at hp; simp [firstAt, hp]
  | succ k ih => cases xs with
    | nil => simp at h
    | cons x xs =>
      simp at hn hp h
      simp only [firstAt, hn.1, Bool.false_eq_true, if_false]
      rw [ih xs h (by simpa using hn.2) hp (j + 1)]
      congr 1; omega

theorem firstAt_miss {α : Type} (p : α → Bool) (xs : List α) (j : Nat) (hn : xs.any p = false) : firstAt p xs j = -1 := by
  induction xs generalizing j with
  | nil => rfl
  | cons x xs ih =>
    simp at hn
    simp only [firstAt, hn.1, Bool.false_eq_true, if_false]
    exact ih (j + 1) (by simpa using hn.2)

theorem firstAt_any {α : Type} (p : α → Bool) (xs : List α) (j : Nat) : (0 ≤ firstAt p xs j) = (xs.any p = true) := by
  induction xs generalizing j with
  | nil => simp [firstAt]
  | cons x xs ih =>
    by_cases h : p x = true
    · simp [firstAt, h]; 
    · have h2 : p x = false := by simpa using h
      simp only [firstAt, h2, List.any_cons, Bool.false_or, Bool.false_eq_true, if_false]
      exact ih (j + 1)

theorem take_any_step {α : Type} (p : α → Bool) (xs : List α) (k : Nat) (h : k < xs.length) (hn : (xs.take k).any p = false) (hp : p xs[k] = false) : (xs.take (k + 1)).any p = false := by
  rw [List.take_succ_eq_append_getElem h, List.any_append, hn]
  simp [hp]

set_option maxHeartbeats 1000000 in
theorem index_func_sign (g : Nat) (lb : Array Value) (p : S77 → Bool) (xs : List S77) (A0 : Option Addr) (c0 : Nat) (w : World) (eg : ∀ args w, (callFunc g args).run Try.prog w = .ok (.enter g args) w) (hr : Kd.C k77 w A0 xs.length xs)
    (hc : ∀ x ∈ xs, ∀ W, Below w.heap.size w W → Calls Try.prog g (#[.agg #[.int .u8 x.f0, .int .i16 x.f1]] ++ lb) W fun e w' => e = .returned (.bool (p x)) ∧ Below w.heap.size w w') :
    Calls Try.prog 43 #[.slice A0 xs.length c0, .func (.func g) #[] lb] w fun e w' => e = .returned (.int .i64 (firstAt p xs 0)) ∧ Below w.heap.size w w' := by
  have hm := Kd.C_max hr
  have HR := Lib.hid hr
  have HC := Lib.hid hc
  clear hr hc
  go_enter Try.func43, Try.ntmps43
  go_wp2
  go_loopw [8] (fun i wr => ∃ k : Nat, k ≤ xs.length ∧ i = .int .i64 k ∧ RowKit.Hid ((xs.take k).any p = false) ∧ RowKit.Hid (Below w.heap.size w wr)) (fun i _ => xs.length - (intOf i).toNat)
  case atStart => exact ⟨0, Nat.zero_le _, rfl, Lib.hid (by simp), Lib.hid (Below.refl _ _)⟩
  case round =>
    obtain ⟨k, hk, rfl, HN, HB⟩ := hrel
    by_cases hlt : k < xs.length
    · have hlt2 : (k : Int) < (xs.length : Int) := by omega
      obtain ⟨ad, rfl, hx, hx1⟩ := at_T77 (Kd.C_below HR.out ⟨HB.out.os, HB.out.tape, HB.out.output, HB.out.size, HB.out.block⟩) k (by omega) (by omega)
      simp only [Int.toNat_natCast] at hx hx1
      have hcall := HC.out xs[k] (List.getElem_mem hlt) wr HB.out
      have Y := Lib.hid (rdSG_get xs k hlt)
      rw [← Y.out] at hcall
      cases hq : p (rd_T77 xs k) with
      | true =>
        rw [hq] at hcall
        go_wp2_with (go_at_fn g; refine hcall.mono ?_; rintro e w' ⟨rfl, hb'⟩)
        go_ret
        refine ⟨?_, hb'⟩
        rw [firstAt_hit p xs k hlt HN.out (by rw [← Y.out]; exact hq)]
        rfl
      | false =>
        rw [hq] at hcall
        go_wp2_with (go_at_fn g; refine hcall.mono ?_; rintro e w' ⟨rfl, hb'⟩)
        go_roundw
        case measure => simp only [intOf]; omega
        case rel => exact ⟨k + 1, by omega, by go_num, Lib.hid (take_any_step p xs k hlt HN.out (by rw [← Y.out]; exact hq)), Lib.hid hb'⟩
    · have hlt2 : ¬ (k : Int) < (xs.length : Int) := by omega
      go_wp2
      go_ret
      refine ⟨?_, HB.out⟩
      have e : xs.take k = xs := List.take_of_length_le (by omega)
      have hn := HN.out
      rw [e] at hn
      rw [firstAt_miss p xs 0 hn]
      rfl

set_option maxHeartbeats 1000000 in
theorem contains_func_sign (g : Nat) (lb : Array Value) (p : S77 → Bool) (xs : List S77) (A0 : Option Addr) (c0 : Nat) (w : World) (eg : ∀ args w, (callFunc g args).run Try.prog w = .ok (.enter g args) w) (hr : Kd.C k77 w A0 xs.length xs)
    (hc : ∀ x ∈ xs, ∀ W, Below w.heap.size w W → Calls Try.prog g (#[.agg #[.int .u8 x.f0, .int .i16 x.f1]] ++ lb) W fun e w' => e = .returned (.bool (p x)) ∧ Below w.heap.size w w') :
    Calls Try.prog 34 #[.slice A0 xs.length c0, .func (.func g) #[] lb] w fun e w' => e = .returned (.bool (xs.any p)) ∧ Below w.heap.size w w' := by
  have HR := Lib.hid hr
  have HC := Lib.hid hc
  clear hr hc
  rw [show xs.any p = decide (0 ≤ firstAt p xs 0) from by rw [Bool.eq_iff_iff, decide_eq_true_iff, firstAt_any]]
  go_enter Try.func34, Try.ntmps34
  go_wp2_with (refine (index_func_sign g lb p xs A0 c0 _ eg HR.out HC.out).mono ?_; rintro e w' ⟨rfl, hb'⟩)
  go_ret
  exact ⟨rfl, hb'⟩


/-- The closure: has this sign that sign's letter? -/
theorem impl_ValidSystem_1.calls (y x : SG) (b : Nat) (w : World) (hbox : w.cell? ⟨b, 0, none⟩ = some (.int .u8 x.f0)) :
    Calls Try.prog 35 (#[.agg #[.int .u8 y.f0, .int .i16 y.f1]] ++ #[.pointer (some ⟨b, 0, none⟩)]) w fun e w' => e = .returned (.bool (decide (y.f0 = x.f0))) ∧ Below w.heap.size w w' := by
  have hlt : b < w.heap.size := World.block_lt_of_cell? w _ hbox
  by_cases e : y.f0 = x.f0
  · have ht : (y.f0 == x.f0) = true := beq_iff_eq.2 e
    rw [decide_eq_true e]
    clear e
    go_enter Try.func35, Try.ntmps35
    go_wp2
    go_ret
    exact ⟨rfl, below_alloc (Below.refl _ _) _⟩
  · have ht : (y.f0 == x.f0) = false := beq_eq_false_iff_ne.2 e
    rw [decide_eq_false e]
    clear e
    go_enter Try.func35, Try.ntmps35
    go_wp2
    go_ret
    exact ⟨rfl, below_alloc (Below.refl _ _) _⟩
theorem enters55 : ∀ args w, (callFunc 35 args).run Try.prog w = .ok (.enter 35 args) w := enters_of Try.func35 (by kernel_rfl) rfl
end Go.Proofs.Ytnacfljfalkonaa.Q
