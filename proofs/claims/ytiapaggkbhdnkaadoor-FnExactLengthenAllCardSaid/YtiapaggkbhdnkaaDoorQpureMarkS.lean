/- The laws' marks on rows of texts. -/
import Derived.Test.YtiapaggkbhdnkaaDoorQpureMark
import Derived.Test.YtiapaggkbhdnkaaDoorQLawStr
namespace Go.Proofs.YtiapaggkbhdnkaaDoor.Q
open Go.RowKit Go.Proofs.YtiapaggkbhdnkaaDoorW.PrintWords Go.Proofs.YtiapaggkbhdnkaaDoor.Pure
set_option linter.unusedVariables false

/-- The mark of a number. -/
noncomputable def markV (n : Int) : ByteArray := (laws_markText.f 20 n).getD ⟨#[]⟩
theorem markV_spec (n : Int) (hn : n ≤ 9223372036854775807) (k : Nat) (hk : 20 ≤ k) : laws_markText.f k n = some (markV n) := by
  obtain ⟨t, ht⟩ := laws_markText.some_ 20 (Nat.le_refl _) n hn
  have : markV n = t := by unfold markV; rw [ht]; rfl
  rw [this]
  exact at_rounds (laws_markText.mono n) hk ht
noncomputable def marksTo (n : Nat) : List ByteArray := (List.range n).map fun (j : Nat) => markV ((j + 1 : Nat) : Int)
theorem marksTo_len (n : Nat) : (marksTo n).length = n := by simp [marksTo]
theorem marksTo_get (n i : Nat) (h : i < n) : rdOf ByteArray.empty (marksTo n) (i : Int) = markV ((i + 1 : Nat) : Int) := by
  rw [rdOf_get _ _ _ (by rw [marksTo_len]; exact h)]
  simp [marksTo]
theorem marksTo_step (xs : List ByteArray) (i : Nat) (h : i < xs.length) : (marksTo i ++ xs.drop i).set i (markV ((i + 1 : Nat) : Int)) = marksTo (i + 1) ++ xs.drop (i + 1) := by
  rw [List.set_append_right _ _ (by rw [marksTo_len]; exact Nat.le_refl _), marksTo_len, Nat.sub_self, List.drop_eq_getElem_cons h, List.set_cons_zero]
  simp [marksTo, List.range_succ]
theorem laws_markStringS.val (l : List ByteArray) (hl : l.length ≤ 4611686018427387904) (k : Nat) (hk : l.length + 21 < k) : laws_markStringS.f k l 1 = some (((l.length + 1 : Nat) : Int), marksTo l.length) := by
  unfold laws_markStringS.f
  have := scan_inv (n := l.length) (M := 21) (l := fun k i (x : Int × List ByteArray) => laws_markStringS.l0 k x.2 x.1 i) (at_ := fun i => (((i + 1 : Nat) : Int), marksTo i ++ l.drop i)) (r := (((l.length + 1 : Nat) : Int), marksTo l.length)) (fun k i hi hM => ?_) (fun k hM => ?_) k (by omega)
  · simpa [marksTo] using this
  · have hlen : (marksTo i ++ l.drop i).length = l.length := by rw [List.length_append, marksTo_len, List.length_drop]; omega
    simp only [laws_markStringS.l0]
    rw [hlen, if_pos (by omega), markV_spec _ (by omega) k (by omega)]
    simp only [Option.bind_some]
    rw [if_pos (by omega), Int.toNat_natCast, marksTo_step l i hi, wrap_succ hi (by omega), wrap_succ (i := i + 1) (n := l.length + 1) (by omega) (by omega)]
  · have hlen : (marksTo l.length ++ l.drop l.length).length = l.length := by rw [List.length_append, marksTo_len, List.length_drop]; omega
    simp only [laws_markStringS.l0]
    rw [hlen, if_neg (by omega)]
    simp
theorem laws_heldStringS.val (n : Nat) (hl : n ≤ 4611686018427387904) (k : Nat) (hk : n + 21 < k) : laws_heldStringS.f k (marksTo n) 1 = some ((n + 1 : Nat) : Int) := by
  unfold laws_heldStringS.f
  have := scan_inv (n := n) (M := 21) (l := fun k i (x : Int) => laws_heldStringS.l0 k (marksTo n) x i) (at_ := fun i => ((i + 1 : Nat) : Int)) (r := ((n + 1 : Nat) : Int)) (fun k i hi hM => ?_) (fun k hM => ?_) k (by omega)
  · simpa using this
  · simp only [laws_heldStringS.l0]
    rw [marksTo_len, if_pos (by omega), if_pos (by omega), markV_spec _ (by omega) k (by omega), marksTo_get n i hi]
    simp only [Option.bind_some, if_true]
    rw [wrap_succ hi (by omega), wrap_succ (i := i + 1) (n := n + 1) (by omega) (by omega)]
  · simp only [laws_heldStringS.l0]
    rw [marksTo_len, if_neg (by omega)]
end Go.Proofs.YtiapaggkbhdnkaaDoor.Q
