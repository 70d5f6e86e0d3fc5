/- The laws' own helpers on rows of texts and of numbers: what they compute; no condition. -/
import Derived.Test.YteahgkijaehobaaDoorBase
import Derived.Test.YteahgkijaehobaaDoorQLawH
namespace Go.Proofs.YteahgkijaehobaaDoor.Q
open Go.RowKit Go.Proofs.YteahgkijaehobaaDoorW.PrintWords Go.Proofs.YteahgkijaehobaaDoor.Pure
set_option linter.unusedVariables false
set_option linter.unusedSimpArgs false

theorem laws_toStringS.val (l : List ByteArray) (hl : l.length ≤ 17592186044416) : laws_toStringS.f (l.length + 1) l = some l := by
  unfold laws_toStringS.f
  rw [if_pos (by omega), if_pos (by omega)]
  refine scan_copy (n := l.length) (l := fun k i x => laws_toStringS.l0 k l x i) rfl (fun k i x hi hx => ?_) (fun k x hx => ?_) _ (by omega) _ (by simp)
  · simp only [laws_toStringS.l0]
    rw [if_pos (by omega), if_pos (by omega), if_pos (by omega), wrap_succ hi (by omega), rdOf_get _ _ _ hi, Int.toNat_natCast]
  · simp [laws_toStringS.l0]

theorem laws_toInt64S.val (l : List Int) (hl : l.length ≤ 35184372088832) : laws_toInt64S.f (l.length + 1) l = some l := by
  unfold laws_toInt64S.f
  rw [if_pos (by omega), if_pos (by omega)]
  refine scan_copy (n := l.length) (l := fun k i x => laws_toInt64S.l0 k l x i) rfl (fun k i x hi hx => ?_) (fun k x hx => ?_) _ (by omega) _ (by simp)
  · simp only [laws_toInt64S.l0]
    rw [if_pos (by omega), if_pos (by omega), if_pos (by omega), wrap_succ hi (by omega), rd_get _ _ hi, Int.toNat_natCast]
  · simp [laws_toInt64S.l0]

theorem laws_eqStringS.val (l m : List ByteArray) (hl : l.length ≤ 9223372036854775807) : laws_eqStringS.f (l.length + 1) l m = some (decide (l = m)) := by
  unfold laws_eqStringS.f
  by_cases h : l.length = m.length
  · rw [if_pos (by omega)]
    have := scan_all (n := l.length) (l := fun k i => laws_eqStringS.l0 k l m i) (p := fun i => decide (rdOf ByteArray.empty l (i : Nat) = rdOf ByteArray.empty m (i : Nat))) (b := true) (fun k i hi => ?_) (fun k => ?_) (l.length + 1) (by omega)
    · rw [all_eq_get l m h _ (fun i hi => by rw [rdOf_get _ _ _ hi, rdOf_get _ m i (by omega)]), Bool.and_true] at this
      exact this
    · simp only [laws_eqStringS.l0, bytes_eq, decide_eq_true_iff]
      rw [if_pos (by omega), if_pos (by omega), if_pos (by omega), wrap_succ hi (by omega)]
    · simp [laws_eqStringS.l0]
  · rw [if_neg (by omega), decide_eq_false (fun e => h (by rw [e]))]

theorem laws_eqInt64S.val (l m : List Int) (hl : l.length ≤ 9223372036854775807) : laws_eqInt64S.f (l.length + 1) l m = some (decide (l = m)) := by
  unfold laws_eqInt64S.f
  by_cases h : l.length = m.length
  · rw [if_pos (by omega)]
    have := scan_all (n := l.length) (l := fun k i => laws_eqInt64S.l0 k l m i) (p := fun i => decide (rd l (i : Nat) = rd m (i : Nat))) (b := true) (fun k i hi => ?_) (fun k => ?_) (l.length + 1) (by omega)
    · rw [all_eq_get l m h _ (fun i hi => by rw [rd_get _ _ hi, rd_get m i (by omega)]), Bool.and_true] at this
      exact this
    · simp only [laws_eqInt64S.l0, decide_eq_true_iff]
      rw [if_pos (by omega), if_pos (by omega), if_pos (by omega), wrap_succ hi (by omega)]
    · simp [laws_eqInt64S.l0]
  · rw [if_neg (by omega), decide_eq_false (fun e => h (by rw [e]))]

/-- What is left of a budget b: less than none, or the row is short and so is each text. -/
theorem laws_szStringS.val (l : List ByteArray) (hl : l.length ≤ 9223372036854775807) (hs : ∀ x ∈ l, x.size ≤ 9223372036854775807) (b : Int) (h0 : 0 ≤ b) (hb : b ≤ 9223372036854775807) :
    ∃ r, laws_szStringS.f (l.length + 1) l b = some r ∧ (r < 0 ∨ (0 ≤ r ∧ r ≤ b ∧ (l.length : Int) ≤ b ∧ ∀ x ∈ l, (x.size : Int) ≤ b)) := by
  unfold laws_szStringS.f
  rw [wrap_id (by omega) (by omega)]
  by_cases hn : b - (l.length : Int) < 0
  · rw [if_pos hn]
    exact ⟨-1, rfl, Or.inl (by omega)⟩
  · rw [if_neg hn]
    have hz : ∀ i : Nat, i < l.length → (rdOf ByteArray.empty l (i : Nat)).size ≤ 9223372036854775807 := fun i hi => by rw [rdOf_get _ _ _ hi]; exact hs _ (List.getElem_mem hi)
    obtain ⟨r, h1, h2⟩ := scan_size (n := l.length) (b := b) (l := fun k i x => laws_szStringS.l0 k l x i) (g := fun i x => x - ((rdOf ByteArray.empty l (i : Nat)).size : Int)) (Q := fun i => ((rdOf ByteArray.empty l (i : Nat)).size : Int) ≤ b)
      (fun k i x hi hx0 hx => by
        have := hz i hi
        simp only [laws_szStringS.l0]
        rw [if_pos (by omega), if_pos (by omega), wrap_id (n := x - _) (by omega) (by omega), wrap_succ hi hl])
      (fun i x hi hx0 hx hg => by omega) (fun k x => by simp [laws_szStringS.l0]) (l.length + 1) (by omega) (b - l.length) (by omega) (by omega)
    refine ⟨r, h1, h2.imp id fun h => ⟨h.1, by omega, by omega, fun x hx => ?_⟩⟩
    obtain ⟨i, hi, rfl⟩ := List.getElem_of_mem hx
    have := h.2.2 i hi
    rw [rdOf_get _ _ _ hi] at this
    exact this
end Go.Proofs.YteahgkijaehobaaDoor.Q
