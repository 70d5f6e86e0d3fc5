/- Rows of pieces: what the program and the reference compute. -/
import Derived.Test.YtfgifjdapojheaaDoorQimplgoesOn
import Derived.Test.YtfgifjdapojheaaDoorQspecl00Has
import Derived.Test.YtfgifjdapojheaaDoorQhandValidPieces
namespace Go.Proofs.YtfgifjdapojheaaDoor.Q
open Go.RowKit Go.Proofs.YtfgifjdapojheaaDoorW.PrintWords Go.Proofs.YtfgifjdapojheaaDoorW.PrintLast Go.Proofs.YtfgifjdapojheaaDoorW.PrintMore
open Go.Proofs.YtfgifjdapojheaaDoor.Pure
set_option linter.unusedVariables false

theorem slices_Index_int64.val (l : List Int) (a : Int) (hl : l.length ≤ 9223372036854775807) : slices_Index_int64.f (l.length + 1) l a = some (firstAt (fun x => a == x) l 0) := by
  have key : ∀ d i k, i + d = l.length → d < k → slices_Index_int64.l0 k l a (l.length : Int) (i : Nat) = some (firstAt (fun x => a == x) (l.drop i) i) := by
    intro d
    induction d with
    | zero =>
      intro i k hi hk
      obtain ⟨k, rfl⟩ : ∃ m, k = m + 1 := ⟨k - 1, by omega⟩
      rw [slices_Index_int64.l0, if_neg (by omega), List.drop_of_length_le (by omega)]
      rfl
    | succ d ih =>
      intro i k hi hk
      obtain ⟨k, rfl⟩ : ∃ m, k = m + 1 := ⟨k - 1, by omega⟩
      have hlt : i < l.length := by omega
      rw [slices_Index_int64.l0, if_pos (by omega), if_pos (by omega), if_pos (by omega), Pure.rd_get l i hlt, List.drop_eq_getElem_cons hlt, wrap_succ (i := i) (n := l.length) (by omega) hl]
      by_cases h : a = l[i]'hlt
      · rw [if_pos h]
        simp [firstAt, ← h]
      · rw [if_neg h, ih (i + 1) k (by omega) (by omega)]
        simp [firstAt, h]
  exact key l.length 0 (l.length + 1) (by omega) (by omega)
theorem slices_Contains_int64.val (l : List Int) (a : Int) (hl : l.length ≤ 9223372036854775807) : slices_Contains_int64.f (l.length + 1) l a = some (l.any fun x => a == x) := by
  unfold slices_Contains_int64.f
  rw [slices_Index_int64.val l a hl]
  simp only [Option.bind_some, Option.some.injEq]
  rw [Bool.eq_iff_iff, decide_eq_true_iff, ← firstAt_any (fun x => a == x) l 0]
theorem spec_l00Has.val (l : List Int) (a : Int) (hl : l.length ≤ 9223372036854775807) : spec_l00Has.f (l.length + 1) l a = some (l.any fun x => a == x) := by
  unfold spec_l00Has.f
  have := scan_any (n := l.length) (l := fun k i => spec_l00Has.l0 k l a i) (p := fun i => a == rd l (i : Nat)) (b := false) (c := true) (fun k i hi => ?_) (fun k => ?_) (l.length + 1) (by omega)
  · rw [this]
    have e : (List.range l.length).any (fun i => a == rd l (i : Nat)) = l.any fun x => a == x := by
      rw [Bool.eq_iff_iff, List.any_eq_true, List.any_eq_true]
      constructor
      · rintro ⟨i, hi, h⟩
        have hi' := List.mem_range.1 hi
        rw [Pure.rd_get l i hi'] at h
        exact ⟨_, List.getElem_mem hi', h⟩
      · rintro ⟨x, hx, h⟩
        obtain ⟨i, hi, rfl⟩ := List.getElem_of_mem hx
        exact ⟨i, List.mem_range.2 hi, by rw [Pure.rd_get l i hi]; exact h⟩
    rw [e]
    cases l.any fun x => a == x <;> rfl
  · simp only [spec_l00Has.l0]
    rw [if_pos (by omega), if_pos (by omega), wrap_succ hi hl]
    by_cases h : a = rd l (i : Nat)
    · rw [if_pos h.symm, if_pos (by simp [h])]
    · rw [if_neg (fun e => h e.symm), if_neg (by simp [h])]
  · simp [spec_l00Has.l0]

abbrev GP := S44
def joinsB (x y : GP) : Bool := (wrap64 ((wrap64 x.f2) + (wrap64 y.f1))) == 255
/-- Piece a goes on a row. -/
def goesB (l0 : List GP) (l1 : List Int) (a : Int) : Bool := !(l1.any fun x => a == x) && (decide (l1.length = 0) || joinsB (rd_T44 l0 (rd l1 ((l1.length - 1 : Nat) : Int))) (rd_T44 l0 a))
/-- The number of a piece. -/
def numB (l0 : List GP) (x : Int) : Bool := decide (0 ≤ x) && decide (x ≤ (l0.length : Int) - 1)
theorem numB_iff {l0 : List GP} {x : Int} : numB l0 x = true ↔ 0 ≤ x ∧ x < l0.length := by
  unfold numB
  simp only [Bool.and_eq_true, decide_eq_true_iff]
  omega
theorem rd_mem (l : List Int) (i : Nat) (h : i < l.length) : rd l (i : Nat) ∈ l := by rw [Pure.rd_get l i h]; exact List.getElem_mem h

theorem impl_goesOn.val (l0 : List GP) (l1 : List Int) (a : Int) (h1 : l1.all (numB l0) = true) (ha : numB l0 a = true) (hl : l1.length ≤ 9223372036854775807) : impl_goesOn.f (l1.length + 1) l0 l1 a = some (goesB l0 l1 a) := by
  unfold impl_goesOn.f goesB
  rw [slices_Contains_int64.val l1 a hl]
  simp only [Option.bind_some]
  cases hq : (l1.any fun x => a == x) with
  | true => simp
  | false =>
    simp only [Bool.false_eq_true, if_false, Bool.not_false, Bool.true_and]
    by_cases h0 : l1.length = 0
    · rw [if_pos (by omega), decide_eq_true h0, Bool.true_or]
    · have e : wrap64 ((l1.length : Int) - 1) = ((l1.length - 1 : Nat) : Int) := by rw [wrap_id (by omega) (by omega)]; omega
      have hn := numB_iff.1 (List.all_eq_true.1 h1 _ (rd_mem l1 (l1.length - 1) (by omega)))
      have ha' := numB_iff.1 ha
      rw [if_neg (by omega), e, if_pos (by omega), if_pos (by omega), if_pos hn.1, if_pos hn.2, if_pos ha'.1, if_pos ha'.2, decide_eq_false h0, Bool.false_or]
      rfl

/-- The texts of the first i pieces of a row. -/
def textTo (l0 : List GP) (l1 : List Int) (i : Nat) : ByteArray := (List.range i).foldl (fun s j => s ++ (rd_T44 l0 (rd l1 (j : Nat))).f0) ⟨#[]⟩
theorem textTo_step (l0 : List GP) (l1 : List Int) (i : Nat) : textTo l0 l1 (i + 1) = textTo l0 l1 i ++ (rd_T44 l0 (rd l1 (i : Nat))).f0 := by
  unfold textTo
  rw [List.range_succ, List.foldl_append]
  rfl
theorem pieces_small {l0 : List GP} (h : piecesB l0 = true) : l0.length ≤ 8 ∧ ∀ x, numB l0 x = true → (rd_T44 l0 x).f0.size ≤ 20 := by
  unfold piecesB at h
  simp only [Bool.and_eq_true, decide_eq_true_iff, List.all_eq_true] at h
  refine ⟨by omega, fun x hx => ?_⟩
  obtain ⟨h1, h2⟩ := numB_iff.1 hx
  obtain ⟨m, rfl⟩ : ∃ m : Nat, x = m := ⟨x.toNat, by omega⟩
  rw [rdT_get l0 m (by omega)]
  have := h.1 _ (List.getElem_mem (show m < l0.length by omega))
  unfold pieceB at this
  simp only [Bool.and_eq_true, decide_eq_true_iff] at this
  omega
theorem textTo_size {l0 : List GP} (h : piecesB l0 = true) (l1 : List Int) (h1 : l1.all (numB l0) = true) (i : Nat) (hi : i ≤ l1.length) : (textTo l0 l1 i).size ≤ 20 * i := by
  induction i with
  | zero => exact Nat.zero_le _
  | succ i ih =>
    rw [textTo_step, ByteArray.size_append]
    have := (pieces_small h).2 _ (List.all_eq_true.1 h1 _ (rd_mem l1 i (by omega)))
    have := ih (by omega)
    omega
end Go.Proofs.YtfgifjdapojheaaDoor.Q
