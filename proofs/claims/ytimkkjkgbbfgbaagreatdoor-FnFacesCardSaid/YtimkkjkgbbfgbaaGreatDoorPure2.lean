/- More plain lemmas on loops told with rounds, and the laws' own helpers; no condition. -/
import Derived.Test.YtimkkjkgbbfgbaaGreatDoorPure
namespace Go.Proofs.YtimkkjkgbbfgbaaGreatDoor.Pure
open Go.RowKit Go.Proofs.YtimkkjkgbbfgbaaGreatDoorW.PrintWords
set_option linter.unusedVariables false

theorem rdOf_get {α : Type} (d : α) (xs : List α) (k : Nat) (h : k < xs.length) : rdOf d xs (k : Int) = xs[k] := by
  unfold rdOf
  simp [List.getD_eq_getElem?_getD, h]
theorem rd_get (xs : List Int) (k : Nat) (h : k < xs.length) : rd xs (k : Int) = xs[k] := by
  unfold rd
  simp [List.getD_eq_getElem?_getD, h]
/-- 'scan_all' where a round itself wants M rounds. -/
theorem scan_allM {n M : Nat} {l : Nat → Int → Option Bool} {p : Nat → Bool} {b : Bool} (hstep : ∀ k (i : Nat), i < n → M ≤ k → l (k + 1) i = if p i = true then l k ((i + 1 : Nat) : Int) else some false)
    (hend : ∀ k, M ≤ k → l (k + 1) (n : Int) = some b) (k : Nat) (hk : n + M < k) : l k 0 = some ((List.range n).all p && b) := by
  have key : ∀ d i k, i + d = n → d + M < k → l k (i : Int) = some (((List.range' i d).all p) && b) := by
    intro d
    induction d with
    | zero =>
      intro i k hi hk
      obtain ⟨k, rfl⟩ : ∃ m, k = m + 1 := ⟨k - 1, by omega⟩
      obtain rfl : i = n := by omega
      simpa using hend k (by omega)
    | succ d ih =>
      intro i k hi hk
      obtain ⟨k, rfl⟩ : ∃ m, k = m + 1 := ⟨k - 1, by omega⟩
      rw [hstep k i (by omega) (by omega), List.range'_succ, List.all_cons]
      cases hp : p i
      · simp
      · rw [if_pos rfl, ih (i + 1) k (by omega) (by omega)]
        simp
  have := key n 0 k (by omega) hk
  rw [List.range_eq_range']
  exact this
/-- 'scan_until' where a round itself wants M rounds, and what is carried meets J. -/
theorem scan_untilM {α β : Type} {n M : Nat} (J : Nat → α → Prop) {l : Nat → Int → α → Option β} {f : Nat → α → β ⊕ α} {g : α → β}
    (hstep : ∀ k (i : Nat) x, i < n → M ≤ k → J i x → l (k + 1) i x = (f i x).elim some (l k ((i + 1 : Nat) : Int)) ∧ ∀ y, f i x = .inr y → J (i + 1) y)
    (hend : ∀ k x, M ≤ k → J n x → l (k + 1) (n : Int) x = some (g x)) (k : Nat) (hk : n + M < k) (x : α) (hx : J 0 x) :
    l k 0 x = some (((List.range n).foldl (untilS f) (Sum.inr x)).elim id g) := by
  have key : ∀ d i k x, i + d = n → d + M < k → J i x → l k (i : Int) x = some (((List.range' i d).foldl (untilS f) (Sum.inr x)).elim id g) := by
    intro d
    induction d with
    | zero =>
      intro i k x hi hk hj
      obtain ⟨k, rfl⟩ : ∃ m, k = m + 1 := ⟨k - 1, by omega⟩
      obtain rfl : i = n := by omega
      simpa using hend k x (by omega) hj
    | succ d ih =>
      intro i k x hi hk hj
      obtain ⟨k, rfl⟩ : ∃ m, k = m + 1 := ⟨k - 1, by omega⟩
      obtain ⟨h1, h2⟩ := hstep k i x (by omega) (by omega) hj
      rw [h1, List.range'_succ, List.foldl_cons]
      show _ = some (((List.range' (i + 1) d).foldl (untilS f) (f i x)).elim id g)
      cases hf : f i x with
      | inl r => rw [untilS_inl]; rfl
      | inr y => exact ih (i + 1) k y (by omega) (by omega) (h2 y hf)
  have := key n 0 k x (by omega) hk hx
  rw [List.range_eq_range']
  exact this
/-- A loop that carries a value whose shape after i rounds is known. -/
theorem scan_inv {α β : Type} {n M : Nat} {l : Nat → Int → α → Option β} {at_ : Nat → α} {r : β} (hstep : ∀ k (i : Nat), i < n → M ≤ k → l (k + 1) i (at_ i) = l k ((i + 1 : Nat) : Int) (at_ (i + 1)))
    (hend : ∀ k, M ≤ k → l (k + 1) (n : Int) (at_ n) = some r) (k : Nat) (hk : n + M < k) : l k 0 (at_ 0) = some r := by
  have key : ∀ d i k, i + d = n → d + M < k → l k (i : Int) (at_ i) = some r := by
    intro d
    induction d with
    | zero =>
      intro i k hi hk
      obtain ⟨k, rfl⟩ : ∃ m, k = m + 1 := ⟨k - 1, by omega⟩
      obtain rfl : i = n := by omega
      exact hend k (by omega)
    | succ d ih =>
      intro i k hi hk
      obtain ⟨k, rfl⟩ : ∃ m, k = m + 1 := ⟨k - 1, by omega⟩
      rw [hstep k i (by omega) (by omega)]
      exact ih (i + 1) k (by omega) (by omega)
  exact key n 0 k (by omega) hk
/-- A loop that writes a row, place by place. -/
theorem scan_copy {α : Type} {n : Nat} {l : Nat → Int → List α → Option (List α)} {ys : List α} (hn : ys.length = n)
    (hstep : ∀ k (i : Nat) x, (hi : i < n) → x.length = n → l (k + 1) i x = l k ((i + 1 : Nat) : Int) (x.set i (ys[i]'(by omega))))
    (hend : ∀ k x, x.length = n → l (k + 1) (n : Int) x = some x) (k : Nat) (hk : n < k) (x : List α) (hx : x.length = n) : l k 0 x = some ys := by
  have := scan_inv (n := n) (M := 0) (l := l) (at_ := fun i => ys.take i ++ x.drop i) (r := ys) (fun k i hi _ => ?_) (fun k _ => ?_) k (by omega)
  · simpa using this
  · show l (k + 1) _ _ = l k _ _
    rw [hstep k i _ hi (by simp; omega)]
    congr 1
    have h1 : x.drop i = x[i]'(by omega) :: x.drop (i + 1) := by rw [List.drop_eq_getElem_cons]
    rw [h1, List.take_succ_eq_append_getElem (show i < ys.length by omega), List.set_append_right _ _ (by simp; omega)]
    rw [show i - (ys.take i).length = 0 by simp; omega, List.set_cons_zero, List.append_assoc]
    rfl
  · show l (k + 1) _ _ = _
    rw [hend k _ (by simp; omega)]
    simp [← hn, List.take_of_length_le, show x.drop ys.length = [] from List.drop_of_length_le (by omega)]
/-- A loop that takes sizes off a budget. -/
theorem scan_size {n : Nat} {l : Nat → Int → Int → Option Int} {g : Nat → Int → Int} {Q : Nat → Prop} {b : Int} (hstep : ∀ k (i : Nat) x, i < n → 0 ≤ x → x ≤ b → l (k + 1) i x = if g i x < 0 then some (-1) else l k ((i + 1 : Nat) : Int) (g i x))
    (hg : ∀ i x, i < n → 0 ≤ x → x ≤ b → 0 ≤ g i x → g i x ≤ x ∧ Q i) (hend : ∀ k x, l (k + 1) (n : Int) x = some x) (k : Nat) (hk : n < k) (x : Int) (h0 : 0 ≤ x) (hx : x ≤ b) :
    ∃ r, l k 0 x = some r ∧ (r < 0 ∨ (0 ≤ r ∧ r ≤ x ∧ ∀ i, i < n → Q i)) := by
  have key : ∀ d i k x, i + d = n → d < k → 0 ≤ x → x ≤ b → ∃ r, l k (i : Int) x = some r ∧ (r < 0 ∨ (0 ≤ r ∧ r ≤ x ∧ ∀ j, i ≤ j → j < n → Q j)) := by
    intro d
    induction d with
    | zero =>
      intro i k x hi hk h0 hx
      obtain ⟨k, rfl⟩ : ∃ m, k = m + 1 := ⟨k - 1, by omega⟩
      obtain rfl : i = n := by omega
      exact ⟨x, hend k x, Or.inr ⟨h0, Int.le_refl _, fun j h1 h2 => by omega⟩⟩
    | succ d ih =>
      intro i k x hi hk h0 hx
      obtain ⟨k, rfl⟩ : ∃ m, k = m + 1 := ⟨k - 1, by omega⟩
      rw [hstep k i x (by omega) h0 hx]
      by_cases hn : g i x < 0
      · rw [if_pos hn]
        exact ⟨-1, rfl, Or.inl (by omega)⟩
      · rw [if_neg hn]
        obtain ⟨h1, h2⟩ := hg i x (by omega) h0 hx (by omega)
        obtain ⟨r, h3, h4⟩ := ih (i + 1) k (g i x) (by omega) (by omega) (by omega) (by omega)
        refine ⟨r, h3, h4.imp id fun h => ⟨h.1, by omega, fun j hj hjn => ?_⟩⟩
        by_cases e : j = i
        · subst e; exact h2
        · exact h.2.2 j (by omega) hjn
  obtain ⟨r, h1, h2⟩ := key n 0 k x (by omega) hk h0 hx
  exact ⟨r, h1, h2.imp id fun h => ⟨h.1, h.2.1, fun j hj => h.2.2 j (by omega) hj⟩⟩
theorem bytes_eq {a b : ByteArray} : a.toList = b.toList ↔ a = b := by
  refine ⟨fun h => ?_, fun h => by rw [h]⟩
  have h2 : a.data.toList = b.data.toList := by
    have e : ∀ c : ByteArray, c.toList = c.data.toList := fun c => by exact ByteArray.toList_eq c
    rw [← e, ← e, h]
  have h3 : a.data = b.data := Array.toList_inj.1 h2
  cases a; cases b; cases h3; rfl
theorem range_all_get {α : Type} (xs : List α) (p : α → Bool) (q : Nat → Bool) (h : ∀ i (hi : i < xs.length), q i = p xs[i]) : (List.range xs.length).all q = xs.all p := by
  rw [Bool.eq_iff_iff, List.all_eq_true, List.all_eq_true]
  constructor
  · intro h1 x hx
    obtain ⟨i, hi, rfl⟩ := List.getElem_of_mem hx
    rw [← h i hi]
    exact h1 i (List.mem_range.2 hi)
  · intro h1 i hi
    rw [h i (List.mem_range.1 hi)]
    exact h1 _ (List.getElem_mem _)
theorem all_eq_get {α : Type} [DecidableEq α] (xs ys : List α) (h : xs.length = ys.length) (q : Nat → Bool) (hq : ∀ i (hi : i < xs.length), q i = decide (xs[i] = ys[i]'(by omega))) : (List.range xs.length).all q = decide (xs = ys) := by
  rw [Bool.eq_iff_iff, List.all_eq_true, decide_eq_true_iff]
  constructor
  · intro h1
    refine List.ext_getElem h fun i hi _ => ?_
    have := h1 i (List.mem_range.2 hi)
    rw [hq i hi] at this
    exact of_decide_eq_true this
  · rintro rfl i hi
    rw [hq i (List.mem_range.1 hi)]
    simp
end Go.Proofs.YtimkkjkgbbfgbaaGreatDoor.Pure
