-- Joined by joinmods.py out of: Pure Pure2 Open
import Derived.Test.YtnacfljfalkonaaWLess
import Derived.ProofKit
import Derived.OpenShut
import Derived.Deep.Slices
import Derived.Lib.SmallJoins
section
/- Plain lemmas on loops told with rounds; no program; no condition. -/
namespace Go.Proofs.Ytnacfljfalkonaa.Pure
open Go.RowKit Go.Proofs.YtnacfljfalkonaaW.PrintWords
set_option linter.unusedVariables false

theorem wrap_id {n : Int} (h0 : -9223372036854775808 ≤ n) (h1 : n ≤ 9223372036854775807) : wrap64 n = n := by unfold wrap64; omega
theorem wrap_succ {i n : Nat} (h : i < n) (hn : n ≤ 9223372036854775807) : wrap64 ((i : Int) + 1) = ((i + 1 : Nat) : Int) := by rw [wrap_id (by omega) (by omega)]; omega

/-- A loop that goes on while a test holds, and answers false where it fails. -/
theorem scan_all {n : Nat} {l : Nat → Int → Option Bool} {p : Nat → Bool} {b : Bool} (hstep : ∀ k (i : Nat), i < n → l (k + 1) i = if p i = true then l k ((i + 1 : Nat) : Int) else some false)
    (hend : ∀ k, l (k + 1) (n : Int) = some b) (k : Nat) (hk : n < k) : l k 0 = some ((List.range n).all p && b) := by
  have key : ∀ d i k, i + d = n → d < k → l k (i : Int) = some (((List.range' i d).all p) && b) := by
    intro d
    induction d with
    | zero =>
      intro i k hi hk
      obtain ⟨k, rfl⟩ : ∃ m, k = m + 1 := ⟨k - 1, by omega⟩
      obtain rfl : i = n := by omega
      simpa using hend k
    | succ d ih =>
      intro i k hi hk
      obtain ⟨k, rfl⟩ : ∃ m, k = m + 1 := ⟨k - 1, by omega⟩
      rw [hstep k i (by omega), List.range'_succ, List.all_cons]
      cases hp : p i
      · simp
      · rw [if_pos rfl, ih (i + 1) k (by omega) (by omega)]
        simp
  have := key n 0 k (by omega) hk
  rw [List.range_eq_range']
  exact this
/-- A loop that looks for the first place where a test holds. -/
theorem scan_any {α : Type} {n : Nat} {l : Nat → Int → Option α} {p : Nat → Bool} {b c : α} (hstep : ∀ k (i : Nat), i < n → l (k + 1) i = if p i = true then some c else l k ((i + 1 : Nat) : Int))
    (hend : ∀ k, l (k + 1) (n : Int) = some b) (k : Nat) (hk : n < k) : l k 0 = some (if (List.range n).any p = true then c else b) := by
  have key : ∀ d i k, i + d = n → d < k → l k (i : Int) = some (if (List.range' i d).any p = true then c else b) := by
    intro d
    induction d with
    | zero =>
      intro i k hi hk
      obtain ⟨k, rfl⟩ : ∃ m, k = m + 1 := ⟨k - 1, by omega⟩
      obtain rfl : i = n := by omega
      simpa using hend k
    | succ d ih =>
      intro i k hi hk
      obtain ⟨k, rfl⟩ : ∃ m, k = m + 1 := ⟨k - 1, by omega⟩
      rw [hstep k i (by omega), List.range'_succ, List.any_cons]
      cases hp : p i
      · rw [if_neg (by simp), ih (i + 1) k (by omega) (by omega), Bool.false_or]
      · simp
  have := key n 0 k (by omega) hk
  rw [List.range_eq_range']
  exact this
/-- A loop that carries something on. -/
theorem scan_fold {α β : Type} {n : Nat} {l : Nat → Int → α → Option β} {f : Nat → α → α} {g : α → β} (hstep : ∀ k (i : Nat) x, i < n → l (k + 1) i x = l k ((i + 1 : Nat) : Int) (f i x))
    (hend : ∀ k x, l (k + 1) (n : Int) x = some (g x)) (k : Nat) (hk : n < k) (x : α) : l k 0 x = some (g ((List.range n).foldl (fun y i => f i y) x)) := by
  have key : ∀ d i k x, i + d = n → d < k → l k (i : Int) x = some (g ((List.range' i d).foldl (fun y i => f i y) x)) := by
    intro d
    induction d with
    | zero =>
      intro i k x hi hk
      obtain ⟨k, rfl⟩ : ∃ m, k = m + 1 := ⟨k - 1, by omega⟩
      obtain rfl : i = n := by omega
      simpa using hend k x
    | succ d ih =>
      intro i k x hi hk
      obtain ⟨k, rfl⟩ : ∃ m, k = m + 1 := ⟨k - 1, by omega⟩
      rw [hstep k i x (by omega), List.range'_succ, List.foldl_cons, ih (i + 1) k _ (by omega) (by omega)]
  have := key n 0 k x (by omega) hk
  rw [List.range_eq_range']
  exact this
def untilS {α β : Type} (f : Nat → α → β ⊕ α) (s : β ⊕ α) (i : Nat) : β ⊕ α := s.elim .inl (f i)
theorem untilS_inl {α β : Type} (f : Nat → α → β ⊕ α) (is : List Nat) (r : β) : is.foldl (untilS f) (Sum.inl r) = Sum.inl r := by
  induction is with
  | nil => rfl
  | cons i is ih => exact ih
/-- A loop with an early end: 'f i x' says how a round ends: left: the answer; right: go on. -/
theorem scan_until {α β : Type} {n : Nat} {l : Nat → Int → α → Option β} {f : Nat → α → β ⊕ α} {g : α → β}
    (hstep : ∀ k (i : Nat) x, i < n → l (k + 1) i x = (f i x).elim some (l k ((i + 1 : Nat) : Int)))
    (hend : ∀ k x, l (k + 1) (n : Int) x = some (g x)) (k : Nat) (hk : n < k) (x : α) :
    l k 0 x = some (((List.range n).foldl (untilS f) (Sum.inr x)).elim id g) := by
  have key : ∀ d i k x, i + d = n → d < k → l k (i : Int) x = some (((List.range' i d).foldl (untilS f) (Sum.inr x)).elim id g) := by
    intro d
    induction d with
    | zero =>
      intro i k x hi hk
      obtain ⟨k, rfl⟩ : ∃ m, k = m + 1 := ⟨k - 1, by omega⟩
      obtain rfl : i = n := by omega
      simpa using hend k x
    | succ d ih =>
      intro i k x hi hk
      obtain ⟨k, rfl⟩ : ∃ m, k = m + 1 := ⟨k - 1, by omega⟩
      rw [hstep k i x (by omega), List.range'_succ, List.foldl_cons]
      show _ = some (((List.range' (i + 1) d).foldl (untilS f) (f i x)).elim id g)
      cases hf : f i x with
      | inl r => rw [untilS_inl]; rfl
      | inr y => exact ih (i + 1) k y (by omega) (by omega)
  have := key n 0 k x (by omega) hk
  rw [List.range_eq_range']
  exact this
end Go.Proofs.Ytnacfljfalkonaa.Pure
end
section
/- More plain lemmas on loops told with rounds, and the laws' own helpers; no condition. -/
namespace Go.Proofs.Ytnacfljfalkonaa.Pure
open Go.RowKit Go.Proofs.YtnacfljfalkonaaW.PrintWords
set_option linter.unusedVariables false

theorem rdOf_get {α : Type} (d : α) (xs : List α) (k : Nat) (h : k < xs.length) : rdOf d xs (k : Int) = xs[k] := by
  unfold rdOf
  simp [List.getD_eq_getElem?_getD, h]
theorem rd_get (xs : List Int) (k : Nat) (h : k < xs.length) : rd xs (k : Int) = xs[k] := by
  unfold rd
  simp [List.getD_eq_getElem?_getD, h]
/-- 'scan_all' where a round itself wants M rounds. -/
theorem scan_allM {n M : Nat} {l : Nat → Int → Option Bool} {p : Nat → Bool} {b : Bool} (hstep : ∀ k (i : Nat), i < n → M ≤ k → l (k + 1) i = if p i = true then l k ((i + 1 : Nat) : Int) else some false)
    (hend : ∀ k, M ≤ k → l (k + 1) (n : Int) = some b) (k : Nat) (hk : n + M < k) : l k 0 = some ((List.range n).all p && b) := by
  have key : ∀ d i k, i + d = n → d + M < k → l k (i : Int) = some (((List.range' i d).all p) && b) := by
    intro d
    induction d with
    | zero =>
      intro i k hi hk
      obtain ⟨k, rfl⟩ : ∃ m, k = m + 1 := ⟨k - 1, by omega⟩
      obtain rfl : i = n := by omega
      simpa using hend k (by omega)
    | succ d ih =>
      intro i k hi hk
      obtain ⟨k, rfl⟩ : ∃ m, k = m + 1 := ⟨k - 1, by omega⟩
      rw [hstep k i (by omega) (by omega), List.range'_succ, List.all_cons]
      cases hp : p i
      · simp
      · rw [if_pos rfl, ih (i + 1) k (by omega) (by omega)]
        simp
  have := key n 0 k (by omega) hk
  rw [List.range_eq_range']
  exact this
/-- 'scan_until' where a round itself wants M rounds, and what is carried meets J. -/
theorem scan_untilM {α β : Type} {n M : Nat} (J : Nat → α → Prop) {l : Nat → Int → α → Option β} {f : Nat → α → β ⊕ α} {g : α → β}
    (hstep : ∀ k (i : Nat) x, i < n → M ≤ k → J i x → l (k + 1) i x = (f i x).elim some (l k ((i + 1 : Nat) : Int)) ∧ ∀ y, f i x = .inr y → J (i + 1) y)
    (hend : ∀ k x, M ≤ k → J n x → l (k + 1) (n : Int) x = some (g x)) (k : Nat) (hk : n + M < k) (x : α) (hx : J 0 x) :
    l k 0 x = some (((List.range n).foldl (untilS f) (Sum.inr x)).elim id g) := by
  have key : ∀ d i k x, i + d = n → d + M < k → J i x → l k (i : Int) x = some (((List.range' i d).foldl (untilS f) (Sum.inr x)).elim id g) := by
    intro d
    induction d with
    | zero =>
      intro i k x hi hk hj
      obtain ⟨k, rfl⟩ : ∃ m, k = m + 1 := ⟨k - 1, by omega⟩
      obtain rfl : i = n := by omega
      simpa using hend k x (by omega) hj
    | succ d ih =>
      intro i k x hi hk hj
      obtain ⟨k, rfl⟩ : ∃ m, k = m + 1 := ⟨k - 1, by omega⟩
      obtain ⟨h1, h2⟩ := hstep k i x (by omega) (by omega) hj
      rw [h1, List.range'_succ, List.foldl_cons]
      show _ = some (((List.range' (i + 1) d).foldl (untilS f) (f i x)).elim id g)
      cases hf : f i x with
      | inl r => rw [untilS_inl]; rfl
      | inr y => exact ih (i + 1) k y (by omega) (by omega) (h2 y hf)
  have := key n 0 k x (by omega) hk hx
  rw [List.range_eq_range']
  exact this
/-- A loop that carries a value whose shape after i rounds is known. -/
theorem scan_inv {α β : Type} {n M : Nat} {l : Nat → Int → α → Option β} {at_ : Nat → α} {r : β} (hstep : ∀ k (i : Nat), i < n → M ≤ k → l (k + 1) i (at_ i) = l k ((i + 1 : Nat) : Int) (at_ (i + 1)))
    (hend : ∀ k, M ≤ k → l (k + 1) (n : Int) (at_ n) = some r) (k : Nat) (hk : n + M < k) : l k 0 (at_ 0) = some r := by
  have key : ∀ d i k, i + d = n → d + M < k → l k (i : Int) (at_ i) = some r := by
    intro d
    induction d with
    | zero =>
      intro i k hi hk
      obtain ⟨k, rfl⟩ : ∃ m, k = m + 1 := ⟨k - 1, by omega⟩
      obtain rfl : i = n := by omega
      exact hend k (by omega)
    | succ d ih =>
      intro i k hi hk
      obtain ⟨k, rfl⟩ : ∃ m, k = m + 1 := ⟨k - 1, by omega⟩
      rw [hstep k i (by omega) (by omega)]
      exact ih (i + 1) k (by omega) (by omega)
  exact key n 0 k (by omega) hk
/-- A loop that writes a row, place by place. -/
theorem scan_copy {α : Type} {n : Nat} {l : Nat → Int → List α → Option (List α)} {ys : List α} (hn : ys.length = n)
    (hstep : ∀ k (i : Nat) x, (hi : i < n) → x.length = n → l (k + 1) i x = l k ((i + 1 : Nat) : Int) (x.set i (ys[i]'(by omega))))
    (hend : ∀ k x, x.length = n → l (k + 1) (n : Int) x = some x) (k : Nat) (hk : n < k) (x : List α) (hx : x.length = n) : l k 0 x = some ys := by
  have := scan_inv (n := n) (M := 0) (l := l) (at_ := fun i => ys.take i ++ x.drop i) (r := ys) (fun k i hi _ => ?_) (fun k _ => ?_) k (by omega)
  · simpa using this
  · show l (k + 1) _ _ = l k _ _
    rw [hstep k i _ hi (by simp; omega)]
    congr 1
    have h1 : x.drop i = x[i]'(by omega) :: x.drop (i + 1) := by rw [List.drop_eq_getElem_cons]
    rw [h1, List.take_succ_eq_append_getElem (show i < ys.length by omega), List.set_append_right _ _ (by simp; omega)]
    rw [show i - (ys.take i).length = 0 by simp; omega, List.set_cons_zero, List.append_assoc]
    rfl
  · show l (k + 1) _ _ = _
    rw [hend k _ (by simp; omega)]
    simp [← hn, List.take_of_length_le, show x.drop ys.length = [] from List.drop_of_length_le (by omega)]
/-- A loop that takes sizes off a budget. -/
theorem scan_size {n : Nat} {l : Nat → Int → Int → Option Int} {g : Nat → Int → Int} {Q : Nat → Prop} {b : Int} (hstep : ∀ k (i : Nat) x, i < n → 0 ≤ x → x ≤ b → l (k + 1) i x = if g i x < 0 then some (-1) else l k ((i + 1 : Nat) : Int) (g i x))
    (hg : ∀ i x, i < n → 0 ≤ x → x ≤ b → 0 ≤ g i x → g i x ≤ x ∧ Q i) (hend : ∀ k x, l (k + 1) (n : Int) x = some x) (k : Nat) (hk : n < k) (x : Int) (h0 : 0 ≤ x) (hx : x ≤ b) :
    ∃ r, l k 0 x = some r ∧ (r < 0 ∨ (0 ≤ r ∧ r ≤ x ∧ ∀ i, i < n → Q i)) := by
  have key : ∀ d i k x, i + d = n → d < k → 0 ≤ x → x ≤ b → ∃ r, l k (i : Int) x = some r ∧ (r < 0 ∨ (0 ≤ r ∧ r ≤ x ∧ ∀ j, i ≤ j → j < n → Q j)) := by
    intro d
    induction d with
    | zero =>
      intro i k x hi hk h0 hx
      obtain ⟨k, rfl⟩ : ∃ m, k = m + 1 := ⟨k - 1, by omega⟩
      obtain rfl : i = n := by omega
      exact ⟨x, hend k x, Or.inr ⟨h0, Int.le_refl _, fun j h1 h2 => by omega⟩⟩
    | succ d ih =>
      intro i k x hi hk h0 hx
      obtain ⟨k, rfl⟩ : ∃ m, k = m + 1 := ⟨k - 1, by omega⟩
      rw [hstep k i x (by omega) h0 hx]
      by_cases hn : g i x < 0
      · rw [if_pos hn]
        exact ⟨-1, rfl, Or.inl (by omega)⟩
      · rw [if_neg hn]
        obtain ⟨h1, h2⟩ := hg i x (by omega) h0 hx (by omega)
        obtain ⟨r, h3, h4⟩ := ih (i + 1) k (g i x) (by omega) (by omega) (by omega) (by omega)
        refine ⟨r, h3, h4.imp id fun h => ⟨h.1, by omega, fun j hj hjn => ?_⟩⟩
        by_cases e : j = i
        · subst e; exact h2
        · exact h.2.2 j (by omega) hjn
  obtain ⟨r, h1, h2⟩ := key n 0 k x (by omega) hk h0 hx
  exact ⟨r, h1, h2.imp id fun h => ⟨h.1, h.2.1, fun j hj => h.2.2 j (by omega) hj⟩⟩
theorem bytes_eq {a b : ByteArray} : a.toList = b.toList ↔ a = b := by
  refine ⟨fun h => ?_, fun h => by rw [h]⟩
  have h2 : a.data.toList = b.data.toList := by
    have e : ∀ c : ByteArray, c.toList = c.data.toList := fun c => by exact ByteArray.toList_eq c
    rw [← e, ← e, h]
  have h3 : a.data = b.data := Array.toList_inj.1 h2
  cases a; cases b; cases h3; rfl
theorem range_all_get {α : Type} (xs : List α) (p : α → Bool) (q : Nat → Bool) (h : ∀ i (hi : i < xs.length), q i = p xs[i]) : (List.range xs.length).all q = xs.all p := by
  rw [Bool.eq_iff_iff, List.all_eq_true, List.all_eq_true]
  constructor
  · intro h1 x hx
    obtain ⟨i, hi, rfl⟩ := List.getElem_of_mem hx
    rw [← h i hi]
    exact h1 i (List.mem_range.2 hi)
  · intro h1 i hi
    rw [h i (List.mem_range.1 hi)]
    exact h1 _ (List.getElem_mem _)
theorem all_eq_get {α : Type} [DecidableEq α] (xs ys : List α) (h : xs.length = ys.length) (q : Nat → Bool) (hq : ∀ i (hi : i < xs.length), q i = decide (xs[i] = ys[i]'(by omega))) : (List.range xs.length).all q = decide (xs = ys) := by
  rw [Bool.eq_iff_iff, List.all_eq_true, decide_eq_true_iff]
  constructor
  · intro h1
    refine List.ext_getElem h fun i hi _ => ?_
    have := h1 i (List.mem_range.2 hi)
    rw [hq i hi] at this
    exact of_decide_eq_true this
  · rintro rfl i hi
    rw [hq i (List.mem_range.1 hi)]
    simp
end Go.Proofs.Ytnacfljfalkonaa.Pure
end
section
/- What comes in, read as data, is of the kinds of the printer's words (whole numbers, bools, strings, structs, arrays, slices of such); no condition. -/
namespace Go.Proofs.Ytnacfljfalkonaa.Open
open Go.RowKit Go.Proofs.YtnacfljfalkonaaW.PrintWords
open Go.ChangeShapes Go.WideShapes Go.ChangeAt Go.Deep Go.Joins
set_option linter.unusedVariables false

/-- Whatever reads as data of type t is of kind d, and its value meets G. -/
def Opens (P : Program) (t : TypeId) {α : Type} (d : Kd α) (G : α → Prop) : Prop :=
  ∀ {H : Type} (enc : TypeId × Value → H) (w : World) (base : Nat) (spare : Nat → Bool) (held : Bool) (fuel : Nat) (cs : List Value) (x : DataW H × List MemPlace),
    DataW.trod enc P w base spare held fuel t cs = some x → ∃ y : α, d.K w y cs ∧ G y

section
variable {P : Program} {t e : TypeId}
theorem opens_int {k : IntKind} (ht : P.underlying t = some (.int k)) : Opens P t (Kd.int k) (fun n => (Lit.int k n).wf = true) := by
  intro H enc w base spare held fuel cs x h
  obtain ⟨n, rfl, _, hw⟩ := DataW.trod_int ht h
  exact ⟨n, rfl, hw⟩
theorem opens_bool (ht : P.underlying t = some .bool) : Opens P t Kd.bool (fun _ => True) := by
  intro H enc w base spare held fuel cs x h
  obtain ⟨n, rfl, _⟩ := DataW.trod_bool ht h
  exact ⟨n, rfl, trivial⟩
theorem opens_string (ht : P.underlying t = some .string) : Opens P t Kd.string (fun s => s.size ≤ 9223372036854775807) := by
  intro H enc w base spare held fuel cs x h
  obtain ⟨n, rfl, _, hw⟩ := DataW.trod_string ht h
  exact ⟨n, rfl, hw⟩
theorem opens_slice {α : Type} [Inhabited α] {d : Kd α} {G : α → Prop} (ht : P.underlying t = some (.slice e)) (hc : P.cellsOf e = d.sz) (he : Opens P e d G) :
    Opens P t (Kd.slice e d) (fun xs => ∀ y ∈ xs, G y) := by
  intro H enc w base spare held fuel cs x h
  rcases open_slice ht h with ⟨rfl, _⟩ | ⟨a, len, cap, m, n, D, Pl, rfl, _, hl, hm, hmm, _, hx⟩
  · exact ⟨[], ⟨none, 0, rfl, Nat.le_refl _, Kd.C_nil _ _⟩, fun y hy => by cases hy⟩
  · have hlm : len ≤ m := by rw [hmm]; split <;> omega
    obtain ⟨Y, hY⟩ := choose_lt (α := α) (n := len) (p := fun i y => ∃ cs', w.cells? base (a.add (i * P.cellsOf e)) (P.cellsOf e) = some cs' ∧ d.K w y cs' ∧ G y) (fun i hi => by
      obtain ⟨cs', h1, h2⟩ := hx i (by omega)
      obtain ⟨y, h3, h4⟩ := he enc w base spare held n cs' _ h2
      exact ⟨y, cs', h1, h3, h4⟩)
    have hlen : ((List.range len).map Y).length = len := by simp
    obtain ⟨C, hC⟩ := choose_lt (α := List Value) (n := len) (p := fun i c => w.cells? base (a.add (i * P.cellsOf e)) (P.cellsOf e) = some c ∧ d.K w (Y i) c ∧ G (Y i)) (fun i hi => hY i hi)
    refine ⟨(List.range len).map Y, ⟨some a, cap, by rw [hlen], by rw [hlen]; exact hl, ?_⟩, ?_⟩
    · rw [hlen]
      refine ⟨hlen, by unfold maxLen at hm; omega, fun h0 => ⟨a, rfl, ?_⟩⟩
      intro j p hp
      rw [List.getElem?_map] at hp
      obtain ⟨j', hj', rfl⟩ := Option.map_eq_some_iff.1 hp
      obtain ⟨hjl, rfl⟩ := List.getElem?_eq_some_iff.1 hj'
      rw [List.length_range] at hjl
      simp only [List.getElem_range] at *
      obtain ⟨h1, h2, _⟩ := hC j hjl
      obtain ⟨_, h4, h5⟩ := World.cells?_some h1
      refine ⟨C j, h4.trans hc, h2, fun i u hu => ?_⟩
      have hi : i < P.cellsOf e := by rw [← h4]; exact (List.getElem?_eq_some_iff.1 hu).1
      rw [← hu, ← h5 i hi, ← hc, Deep.add_add]
    · intro y hy
      obtain ⟨i, hi, rfl⟩ := List.mem_map.1 hy
      exact (hC i (List.mem_range.1 hi)).2.2
theorem cut2 {α : Type} (l : List α) (a b : Nat) (h : l.length = a + b) : l = (l.drop 0).take a ++ (l.drop a).take b := by
  rw [List.drop_zero, show (l.drop a).take b = l.drop a from List.take_of_length_le (by rw [List.length_drop]; omega), List.take_append_drop]
theorem cut3 {α : Type} (l : List α) (a b c : Nat) (h : l.length = a + b + c) : l = (l.drop 0).take a ++ ((l.drop a).take b ++ (l.drop (a + b)).take c) := by
  have h2 := cut2 (l.drop a) b c (by rw [List.length_drop]; omega)
  rw [List.drop_zero, List.drop_drop] at h2
  rw [List.drop_zero, ← h2, List.take_append_drop]
theorem cut4 {α : Type} (l : List α) (a b c d : Nat) (h : l.length = a + b + c + d) : l = (l.drop 0).take a ++ ((l.drop a).take b ++ ((l.drop (a + b)).take c ++ (l.drop (a + b + c)).take d)) := by
  have h2 := cut3 (l.drop a) b c d (by rw [List.length_drop]; omega)
  rw [List.drop_zero, List.drop_drop, List.drop_drop, ← Nat.add_assoc] at h2
  rw [List.drop_zero, ← h2, List.take_append_drop]
theorem opens_struct2 {γ α0 α1 : Type} {d0 : Kd α0} {d1 : Kd α1} {G0 : α0 → Prop} {G1 : α1 → Prop} (f : γ → α0 × α1) (g : α0 → α1 → γ) (hfg : ∀ a b, f (g a b) = (a, b))
    {f0 f1 : Field} (ht : P.underlying t = some (.struct #[f0, f1])) (o0 : f0.offset = 0) (o1 : f1.offset = d0.sz) (c0 : P.cellsOf f0.type = d0.sz) (c1 : P.cellsOf f1.type = d1.sz) (hc : P.cellsOf t = d0.sz + d1.sz)
    (h0 : Opens P f0.type d0 G0) (h1 : Opens P f1.type d1 G1) : Opens P t (Kd.iso (Kd.pair d0 d1) f) (fun y => G0 (f y).1 ∧ G1 (f y).2) := by
  intro H enc w base spare held fuel cs x h
  obtain ⟨y0, y1, n, _, hl, t0, t1⟩ := trod_struct2 ht h
  rw [o0, c0] at t0; rw [o1, c1] at t1
  obtain ⟨a, ka, ga⟩ := h0 enc w base spare held n _ _ t0
  obtain ⟨b, kb, gb⟩ := h1 enc w base spare held n _ _ t1
  refine ⟨g a b, ?_, by simp only [hfg]; exact ⟨ga, gb⟩⟩
  show ∃ c0 c1, _
  rw [hfg]
  exact ⟨_, _, cut2 cs _ _ (hl.trans hc), ka, kb⟩
theorem opens_struct3 {γ α0 α1 α2 : Type} {d0 : Kd α0} {d1 : Kd α1} {d2 : Kd α2} {G0 : α0 → Prop} {G1 : α1 → Prop} {G2 : α2 → Prop} (f : γ → α0 × α1 × α2) (g : α0 → α1 → α2 → γ) (hfg : ∀ a b c, f (g a b c) = (a, b, c))
    {f0 f1 f2 : Field} (ht : P.underlying t = some (.struct #[f0, f1, f2])) (o0 : f0.offset = 0) (o1 : f1.offset = d0.sz) (o2 : f2.offset = d0.sz + d1.sz) (c0 : P.cellsOf f0.type = d0.sz) (c1 : P.cellsOf f1.type = d1.sz) (c2 : P.cellsOf f2.type = d2.sz)
    (hc : P.cellsOf t = d0.sz + d1.sz + d2.sz)
    (h0 : Opens P f0.type d0 G0) (h1 : Opens P f1.type d1 G1) (h2 : Opens P f2.type d2 G2) : Opens P t (Kd.iso (Kd.pair d0 (Kd.pair d1 d2)) f) (fun y => G0 (f y).1 ∧ G1 (f y).2.1 ∧ G2 (f y).2.2) := by
  intro H enc w base spare held fuel cs x h
  obtain ⟨y0, y1, y2, n, _, hl, t0, t1, t2⟩ := trod_struct3 ht h
  rw [o0, c0] at t0; rw [o1, c1] at t1; rw [o2, c2] at t2
  obtain ⟨a, ka, ga⟩ := h0 enc w base spare held n _ _ t0
  obtain ⟨b, kb, gb⟩ := h1 enc w base spare held n _ _ t1
  obtain ⟨c, kc, gc⟩ := h2 enc w base spare held n _ _ t2
  refine ⟨g a b c, ?_, by simp only [hfg]; exact ⟨ga, gb, gc⟩⟩
  show ∃ c0 c1, _
  rw [hfg]
  exact ⟨_, _, cut3 cs _ _ _ (hl.trans hc), ka, _, _, rfl, kb, kc⟩
/-- A struct that comes in by value: its cells are of its kind. -/
theorem open_val {H : Type} {enc : TypeId × Value → H} {α : Type} {d : Kd α} {G : α → Prop} (ho : Opens P t d G) {W : World} {base : Nat} {spare : Nat → Bool} {held : Bool} {v : Value} {y : DataW H} {p : List MemPlace}
    (h : DataW.Trod enc P W base spare held t v y p) : ∃ a : α, d.K W a v.cells.toList ∧ G a := by
  obtain ⟨fuel, hf⟩ := h
  exact ho enc W base spare held fuel _ _ hf
theorem open_agg {H : Type} {enc : TypeId × Value → H} {α : Type} {d : Kd α} {G : α → Prop} (ho : Opens P t d G) {fs : Array Field} (ht : P.underlying t = some (.struct fs)) {r : Reach} {b0 : Nat} {W : World} {base : Nat} {spare : Nat → Bool} {held : Bool} {v : Value} {y : DataW H} {p : List MemPlace}
    (hv : Value.okWide P W r b0 t v) (h : DataW.Trod enc P W base spare held t v y p) : ∃ (a : α) (cs : List Value), v = .agg cs.toArray ∧ d.K W a cs ∧ G a := by
  obtain ⟨cs, rfl, _⟩ := okWide_struct ht hv
  obtain ⟨a, hk, hg⟩ := open_val ho h
  exact ⟨a, cs.toList, by simp, by simpa [Value.cells] using hk, hg⟩
/-- A slice that comes in. -/
theorem open_row {H : Type} {enc : TypeId × Value → H} {α : Type} {d : Kd α} {G : List α → Prop} (ho : Opens P t (Kd.slice e d) G) (ht : P.underlying t = some (.slice e)) {r : Reach} {b0 : Nat} {W : World} {base : Nat} {spare : Nat → Bool} {held : Bool} {v : Value} {y : DataW H} {p : List MemPlace}
    (hv : Value.okWide P W r b0 t v) (h : DataW.Trod enc P W base spare held t v y p) : ∃ (xs : List α) (A : Option Addr) (c : Nat), v = .slice A xs.length c ∧ xs.length ≤ c ∧ d.C W A xs.length xs ∧ G xs := by
  obtain ⟨a0, len, cap, rfl⟩ := okWide_slice ht hv
  obtain ⟨xs, ⟨A, c, hk, hl, hc⟩, hg⟩ := open_val ho h
  simp [Value.cells] at hk
  obtain ⟨rfl, rfl, rfl⟩ := hk
  exact ⟨xs, _, _, rfl, hl, hc, hg⟩
end
end Go.Proofs.Ytnacfljfalkonaa.Open
end
