/- The laws' helpers on rows of numbers: comparisons, marks; no condition. -/
import Derived.Test.YtcaidohboacokaaBase
import Derived.Test.YtcaidohboacokaaQLawI
namespace Go.Proofs.Ytcaidohboacokaa.Q
open Go.RowKit Go.Proofs.YtcaidohboacokaaW.PrintWords Go.Proofs.Ytcaidohboacokaa.Pure
set_option linter.unusedVariables false

theorem laws_eqInt64S.val (l m : List Int) (hl : l.length ≤ 9223372036854775806) (k : Nat) (hk : l.length < k) : laws_eqInt64S.f k l m = some (decide (l = m)) := by
  unfold laws_eqInt64S.f
  by_cases h : l.length = m.length
  · rw [if_pos (by omega)]
    have := scan_all (n := l.length) (l := fun k i => laws_eqInt64S.l0 k l m i) (p := fun i => decide (rd l (i : Nat) = rd m (i : Nat))) (b := true) (fun k i hi => ?_) (fun k => ?_) k hk
    · rw [all_eq_get l m h _ (fun i hi => by rw [rd_get _ _ hi, rd_get m i (by omega)]), Bool.and_true] at this
      exact this
    · simp only [laws_eqInt64S.l0, decide_eq_true_iff]
      rw [if_pos (by omega), if_pos (by omega), if_pos (by omega), wrap_succ hi (by omega)]
    · simp [laws_eqInt64S.l0]
  · rw [if_neg (by omega), decide_eq_false (fun e => h (by rw [e]))]
/-- 1, 2, .., n. -/
def oneTo (n : Nat) : List Int := (List.range n).map fun (j : Nat) => ((j + 1 : Nat) : Int)
theorem oneTo_len (n : Nat) : (oneTo n).length = n := by simp [oneTo]
theorem oneTo_get (n i : Nat) (h : i < n) : rd (oneTo n) (i : Int) = ((i + 1 : Nat) : Int) := by
  rw [rd_get _ _ (by rw [oneTo_len]; exact h)]
  simp [oneTo]
theorem oneTo_step (xs : List Int) (i : Nat) (h : i < xs.length) : (oneTo i ++ xs.drop i).set i ((i + 1 : Nat) : Int) = oneTo (i + 1) ++ xs.drop (i + 1) := by
  rw [List.set_append_right _ _ (by rw [oneTo_len]; exact Nat.le_refl _), oneTo_len, Nat.sub_self, List.drop_eq_getElem_cons h, List.set_cons_zero]
  simp [oneTo, List.range_succ]
theorem laws_markInt64S.val (l : List Int) (hl : l.length ≤ 4611686018427387904) (k : Nat) (hk : l.length < k) : laws_markInt64S.f k l 1 = some (((l.length + 1 : Nat) : Int), oneTo l.length) := by
  unfold laws_markInt64S.f
  have := scan_inv (n := l.length) (M := 0) (l := fun k i (x : Int × List Int) => laws_markInt64S.l0 k x.2 x.1 i) (at_ := fun i => (((i + 1 : Nat) : Int), oneTo i ++ l.drop i)) (r := (((l.length + 1 : Nat) : Int), oneTo l.length)) (fun k i hi _ => ?_) (fun k _ => ?_) k (by omega)
  · simpa [oneTo] using this
  · have hlen : (oneTo i ++ l.drop i).length = l.length := by rw [List.length_append, oneTo_len, List.length_drop]; omega
    simp only [laws_markInt64S.l0]
    rw [hlen, if_pos (by omega), if_pos (by omega), Int.toNat_natCast, oneTo_step l i hi, wrap_succ hi (by omega), wrap_succ (i := i + 1) (n := l.length + 1) (by omega) (by omega)]
  · have hlen : (oneTo l.length ++ l.drop l.length).length = l.length := by rw [List.length_append, oneTo_len, List.length_drop]; omega
    simp only [laws_markInt64S.l0]
    rw [hlen, if_neg (by omega)]
    simp
theorem laws_heldInt64S.val (n : Nat) (hl : n ≤ 4611686018427387904) (k : Nat) (hk : n < k) : laws_heldInt64S.f k (oneTo n) 1 = some ((n + 1 : Nat) : Int) := by
  unfold laws_heldInt64S.f
  have := scan_inv (n := n) (M := 0) (l := fun k i (x : Int) => laws_heldInt64S.l0 k (oneTo n) x i) (at_ := fun i => ((i + 1 : Nat) : Int)) (r := ((n + 1 : Nat) : Int)) (fun k i hi _ => ?_) (fun k _ => ?_) k (by omega)
  · simpa using this
  · simp only [laws_heldInt64S.l0]
    rw [oneTo_len, if_pos (by omega), if_pos (by omega), oneTo_get n i hi, if_pos rfl, wrap_succ hi (by omega), wrap_succ (i := i + 1) (n := n + 1) (by omega) (by omega)]
  · simp only [laws_heldInt64S.l0]
    rw [oneTo_len, if_neg (by omega)]
end Go.Proofs.Ytcaidohboacokaa.Q
