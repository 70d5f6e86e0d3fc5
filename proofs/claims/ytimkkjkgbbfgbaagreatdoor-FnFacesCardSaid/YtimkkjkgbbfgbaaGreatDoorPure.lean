/- Plain lemmas on loops told with rounds; no program; no condition. -/
import Derived.Test.YtimkkjkgbbfgbaaGreatDoorWLess
namespace Go.Proofs.YtimkkjkgbbfgbaaGreatDoor.Pure
open Go.RowKit Go.Proofs.YtimkkjkgbbfgbaaGreatDoorW.PrintWords
set_option linter.unusedVariables false

theorem wrap_id {n : Int} (h0 : -9223372036854775808 ≤ n) (h1 : n ≤ 9223372036854775807) : wrap64 n = n := by unfold wrap64; omega
theorem wrap_succ {i n : Nat} (h : i < n) (hn : n ≤ 9223372036854775807) : wrap64 ((i : Int) + 1) = ((i + 1 : Nat) : Int) := by rw [wrap_id (by omega) (by omega)]; omega

/-- A loop that goes on while a test holds, and answers false where it fails. -/
theorem scan_all {n : Nat} {l : Nat → Int → Option Bool} {p : Nat → Bool} {b : Bool} (hstep : ∀ k (i : Nat), i < n → l (k + 1) i = if p i = true then l k ((i + 1 : Nat) : Int) else some false)
    (hend : ∀ k, l (k + 1) (n : Int) = some b) (k : Nat) (hk : n < k) : l k 0 = some ((List.range n).all p && b) := by
  have key : ∀ d i k, i + d = n → d < k → l k (i : Int) = some (((List.range' i d).all p) && b) := by
    intro d
    induction d with
    | zero =>
      intro i k hi hk
      obtain ⟨k, rfl⟩ : ∃ m, k = m + 1 := ⟨k - 1, by omega⟩
      obtain rfl : i = n := by omega
      simpa using hend k
    | succ d ih =>
      intro i k hi hk
      obtain ⟨k, rfl⟩ : ∃ m, k = m + 1 := ⟨k - 1, by omega⟩
      rw [hstep k i (by omega), List.range'_succ, List.all_cons]
      cases hp : p i
      · simp
      · rw [if_pos rfl, ih (i + 1) k (by omega) (by omega)]
        simp
  have := key n 0 k (by omega) hk
  rw [List.range_eq_range']
  exact this
/-- A loop that looks for the first place where a test holds. -/
theorem scan_any {α : Type} {n : Nat} {l : Nat → Int → Option α} {p : Nat → Bool} {b c : α} (hstep : ∀ k (i : Nat), i < n → l (k + 1) i = if p i = true then some c else l k ((i + 1 : Nat) : Int))
    (hend : ∀ k, l (k + 1) (n : Int) = some b) (k : Nat) (hk : n < k) : l k 0 = some (if (List.range n).any p = true then c else b) := by
  have key : ∀ d i k, i + d = n → d < k → l k (i : Int) = some (if (List.range' i d).any p = true then c else b) := by
    intro d
    induction d with
    | zero =>
      intro i k hi hk
      obtain ⟨k, rfl⟩ : ∃ m, k = m + 1 := ⟨k - 1, by omega⟩
      obtain rfl : i = n := by omega
      simpa using hend k
    | succ d ih =>
      intro i k hi hk
      obtain ⟨k, rfl⟩ : ∃ m, k = m + 1 := ⟨k - 1, by omega⟩
      rw [hstep k i (by omega), List.range'_succ, List.any_cons]
      cases hp : p i
      · rw [if_neg (by simp), ih (i + 1) k (by omega) (by omega), Bool.false_or]
      · simp
  have := key n 0 k (by omega) hk
  rw [List.range_eq_range']
  exact this
/-- A loop that carries something on. -/
theorem scan_fold {α β : Type} {n : Nat} {l : Nat → Int → α → Option β} {f : Nat → α → α} {g : α → β} (hstep : ∀ k (i : Nat) x, i < n → l (k + 1) i x = l k ((i + 1 : Nat) : Int) (f i x))
    (hend : ∀ k x, l (k + 1) (n : Int) x = some (g x)) (k : Nat) (hk : n < k) (x : α) : l k 0 x = some (g ((List.range n).foldl (fun y i => f i y) x)) := by
  have key : ∀ d i k x, i + d = n → d < k → l k (i : Int) x = some (g ((List.range' i d).foldl (fun y i => f i y) x)) := by
    intro d
    induction d with
    | zero =>
      intro i k x hi hk
      obtain ⟨k, rfl⟩ : ∃ m, k = m + 1 := ⟨k - 1, by omega⟩
      obtain rfl : i = n := by omega
      simpa using hend k x
    | succ d ih =>
      intro i k x hi hk
      obtain ⟨k, rfl⟩ : ∃ m, k = m + 1 := ⟨k - 1, by omega⟩
      rw [hstep k i x (by omega), List.range'_succ, List.foldl_cons, ih (i + 1) k _ (by omega) (by omega)]
  have := key n 0 k x (by omega) hk
  rw [List.range_eq_range']
  exact this
def untilS {α β : Type} (f : Nat → α → β ⊕ α) (s : β ⊕ α) (i : Nat) : β ⊕ α := s.elim .inl (f i)
theorem untilS_inl {α β : Type} (f : Nat → α → β ⊕ α) (is : List Nat) (r : β) : is.foldl (untilS f) (Sum.inl r) = Sum.inl r := by
  induction is with
  | nil => rfl
  | cons i is ih => exact ih
/-- A loop with an early end: 'f i x' says how a round ends: left: the answer; right: go on. -/
theorem scan_until {α β : Type} {n : Nat} {l : Nat → Int → α → Option β} {f : Nat → α → β ⊕ α} {g : α → β}
    (hstep : ∀ k (i : Nat) x, i < n → l (k + 1) i x = (f i x).elim some (l k ((i + 1 : Nat) : Int)))
    (hend : ∀ k x, l (k + 1) (n : Int) x = some (g x)) (k : Nat) (hk : n < k) (x : α) :
    l k 0 x = some (((List.range n).foldl (untilS f) (Sum.inr x)).elim id g) := by
  have key : ∀ d i k x, i + d = n → d < k → l k (i : Int) x = some (((List.range' i d).foldl (untilS f) (Sum.inr x)).elim id g) := by
    intro d
    induction d with
    | zero =>
      intro i k x hi hk
      obtain ⟨k, rfl⟩ : ∃ m, k = m + 1 := ⟨k - 1, by omega⟩
      obtain rfl : i = n := by omega
      simpa using hend k x
    | succ d ih =>
      intro i k x hi hk
      obtain ⟨k, rfl⟩ : ∃ m, k = m + 1 := ⟨k - 1, by omega⟩
      rw [hstep k i x (by omega), List.range'_succ, List.foldl_cons]
      show _ = some (((List.range' (i + 1) d).foldl (untilS f) (f i x)).elim id g)
      cases hf : f i x with
      | inl r => rw [untilS_inl]; rfl
      | inr y => exact ih (i + 1) k y (by omega) (by omega)
  have := key n 0 k x (by omega) hk
  rw [List.range_eq_range']
  exact this
end Go.Proofs.YtimkkjkgbbfgbaaGreatDoor.Pure
