/- The laws' marks: what they write and what they hold; no condition. -/
import Derived.Test.YtfgifjdapojheaaDoorPure2
import Derived.Test.YtfgifjdapojheaaDoorQlawsmarkText
import Derived.Test.YtfgifjdapojheaaDoorQlawsmarkInt64S
import Derived.Test.YtfgifjdapojheaaDoorQlawsheldInt64S
namespace Go.Proofs.YtfgifjdapojheaaDoor.Q
open Go.RowKit Go.Proofs.YtfgifjdapojheaaDoorW.PrintWords Go.Proofs.YtfgifjdapojheaaDoor.Pure
set_option linter.unusedVariables false
set_option linter.unusedSimpArgs false

/-- 1, 2, .., n. -/
def oneTo (n : Nat) : List Int := (List.range n).map fun (j : Nat) => ((j + 1 : Nat) : Int)
theorem oneTo_len (n : Nat) : (oneTo n).length = n := by simp [oneTo]
theorem oneTo_get (n i : Nat) (h : i < n) : rd (oneTo n) (i : Int) = ((i + 1 : Nat) : Int) := by
  rw [rd_get _ _ (by rw [oneTo_len]; exact h)]
  simp [oneTo]
theorem oneTo_step (xs : List Int) (i : Nat) (h : i < xs.length) : (oneTo i ++ xs.drop i).set i ((i + 1 : Nat) : Int) = oneTo (i + 1) ++ xs.drop (i + 1) := by
  rw [List.set_append_right _ _ (by rw [oneTo_len]; exact Nat.le_refl _), oneTo_len, Nat.sub_self, List.drop_eq_getElem_cons h, List.set_cons_zero]
  simp [oneTo, List.range_succ]

theorem laws_markInt64S.val (l : List Int) (hl : l.length ≤ 4611686018427387904) : laws_markInt64S.f (l.length + 1) l 1 = some (((l.length + 1 : Nat) : Int), oneTo l.length) := by
  unfold laws_markInt64S.f
  have := scan_inv (n := l.length) (M := 0) (l := fun k i (x : Int × List Int) => laws_markInt64S.l0 k x.2 x.1 i) (at_ := fun i => (((i + 1 : Nat) : Int), oneTo i ++ l.drop i)) (r := (((l.length + 1 : Nat) : Int), oneTo l.length)) (fun k i hi _ => ?_) (fun k _ => ?_) (l.length + 1) (by omega)
  · simpa [oneTo] using this
  · have hlen : (oneTo i ++ l.drop i).length = l.length := by rw [List.length_append, oneTo_len, List.length_drop]; omega
    simp only [laws_markInt64S.l0]
    rw [hlen, if_pos (by omega), if_pos (by omega), Int.toNat_natCast, oneTo_step l i hi, wrap_succ hi (by omega), wrap_succ (i := i + 1) (n := l.length + 1) (by omega) (by omega)]
  · have hlen : (oneTo l.length ++ l.drop l.length).length = l.length := by rw [List.length_append, oneTo_len, List.length_drop]; omega
    simp only [laws_markInt64S.l0]
    rw [hlen, if_neg (by omega)]
    simp
theorem laws_heldInt64S.val (n : Nat) (hl : n ≤ 4611686018427387904) : laws_heldInt64S.f (n + 1) (oneTo n) 1 = some ((n + 1 : Nat) : Int) := by
  unfold laws_heldInt64S.f
  have := scan_inv (n := n) (M := 0) (l := fun k i (x : Int) => laws_heldInt64S.l0 k (oneTo n) x i) (at_ := fun i => ((i + 1 : Nat) : Int)) (r := ((n + 1 : Nat) : Int)) (fun k i hi _ => ?_) (fun k _ => ?_) (n + 1) (by omega)
  · simpa using this
  · simp only [laws_heldInt64S.l0]
    rw [oneTo_len, if_pos (by omega), if_pos (by omega), oneTo_get n i hi, if_pos rfl, wrap_succ hi (by omega), wrap_succ (i := i + 1) (n := n + 1) (by omega) (by omega)]
  · simp only [laws_heldInt64S.l0]
    rw [oneTo_len, if_neg (by omega)]
theorem strOfNums_one (x : Int) : (strOfNums [x]).size = 1 := by simp [strOfNums, ByteArray.size]
theorem laws_markText.ends : ∀ (m k : Nat) (x : Int) (s : ByteArray), m < k → x < 10 ^ m → x ≤ 9223372036854775807 → s.size + m + 1 ≤ 9223372036854775807 → ∃ t, laws_markText.l0 k x s = some t := by
  intro m
  induction m with
  | zero =>
    intro k x s hk hx hx2 hs
    obtain ⟨k, rfl⟩ : ∃ j, k = j + 1 := ⟨k - 1, by omega⟩
    simp only [laws_markText.l0]
    rw [if_neg (by omega), if_pos (by omega)]
    exact ⟨_, rfl⟩
  | succ m ih =>
    intro k x s hk hx hx2 hs
    obtain ⟨k, rfl⟩ : ∃ j, k = j + 1 := ⟨k - 1, by omega⟩
    simp only [laws_markText.l0, Option.bind_some]
    by_cases h0 : x > 0
    · rw [if_pos h0, strOfNums_one, if_pos (by omega)]
      have hd : Int.tdiv x 10 = x / 10 := Int.tdiv_eq_ediv_of_nonneg (by omega)
      rw [hd, wrap_id (n := x / 10) (by omega) (by omega)]
      refine ih k _ _ (by omega) ?_ (by omega) ?_
      · have : x < 10 ^ m * 10 := by rw [← Int.pow_succ]; exact hx
        generalize (10 : Int) ^ m = p at this ⊢
        omega
      · rw [ByteArray.size_append, strOfNums_one]; omega
    · rw [if_neg h0, if_pos (by omega)]
      exact ⟨_, rfl⟩
theorem laws_markText.some_ (k : Nat) (hk : 20 ≤ k) (x : Int) (hx : x ≤ 9223372036854775807) : ∃ t, laws_markText.f k x = some t := by
  unfold laws_markText.f
  by_cases h : x ≤ 0
  · rw [if_pos h]; exact ⟨_, rfl⟩
  · rw [if_neg h]
    exact laws_markText.ends 19 k x _ (by omega) (by omega) hx (by show (0 : Nat) + 19 + 1 ≤ _; omega)
end Go.Proofs.YtfgifjdapojheaaDoor.Q
