/- slices.Searches, in plain words. -/
import Derived.Test.YtfgifjdapojheaaDoorQ0
import Derived.Test.YtfgifjdapojheaaDoorPure
import Derived.Outline
import Derived.Lib.Hide
import Derived.Shelf.Abstract
namespace Go.Proofs.YtfgifjdapojheaaDoor.Q
open Go.RowKit Go.Proofs.YtfgifjdapojheaaDoorW.PrintWords Go.Proofs.YtfgifjdapojheaaDoorW.PrintLast Go.Proofs.YtfgifjdapojheaaDoorW.PrintMore
set_option linter.unusedVariables false

/-- Where a search that has met no hit ends. -/
def firstAt {α : Type} (p : α → Bool) : List α → Nat → Int
  | [], _ => -1
  | x :: xs, k => if p x then k else firstAt p xs (k + 1)

theorem firstAt_hit {α : Type} (p : α → Bool) (xs : List α) (k : Nat) (h : k < xs.length) (hn : (xs.take k).any p = false) (hp : p xs[k] = true) (j : Nat) : firstAt p xs j = ((k + j : Nat) : Int) := by
  induction k generalizing xs j with
  | zero => cases xs with
    | nil => simp at h
    | cons x xs => simp at hp; simp [firstAt, hp]
  | succ k ih => cases xs with
    | nil => simp at h
    | cons x xs =>
      simp at hn hp h
      simp only [firstAt, hn.1, Bool.false_eq_true, if_false]
      rw [ih xs h (by simpa using hn.2) hp (j + 1)]
      congr 1; omega

theorem firstAt_miss {α : Type} (p : α → Bool) (xs : List α) (j : Nat) (hn : xs.any p = false) : firstAt p xs j = -1 := by
  induction xs generalizing j with
  | nil => rfl
  | cons x xs ih =>
    simp at hn
    simp only [firstAt, hn.1, Bool.false_eq_true, if_false]
    exact ih (j + 1) (by simpa using hn.2)

theorem firstAt_any {α : Type} (p : α → Bool) (xs : List α) (j : Nat) : (0 ≤ firstAt p xs j) = (xs.any p = true) := by
  induction xs generalizing j with
  | nil => simp [firstAt]
  | cons x xs ih =>
    by_cases h : p x = true
    · simp [firstAt, h]; 
    · have h2 : p x = false := by simpa using h
      simp only [firstAt, h2, List.any_cons, Bool.false_or, Bool.false_eq_true, if_false]
      exact ih (j + 1)

theorem rdOf_get {α : Type} (d : α) (xs : List α) (k : Nat) (h : k < xs.length) : rdOf d xs (k : Int) = xs[k] := by
  unfold rdOf
  simp [List.getD_eq_getElem?_getD, h]

theorem rd_get (xs : List Int) (k : Nat) (h : k < xs.length) : rd xs (k : Int) = xs[k] := by
  unfold rd
  simp [List.getD_eq_getElem?_getD, h]

theorem take_any_step {α : Type} (p : α → Bool) (xs : List α) (k : Nat) (h : k < xs.length) (hn : (xs.take k).any p = false) (hp : p xs[k] = false) : (xs.take (k + 1)).any p = false := by
  rw [List.take_succ_eq_append_getElem h, List.any_append, hn]
  simp [hp]

end Go.Proofs.YtfgifjdapojheaaDoor.Q
