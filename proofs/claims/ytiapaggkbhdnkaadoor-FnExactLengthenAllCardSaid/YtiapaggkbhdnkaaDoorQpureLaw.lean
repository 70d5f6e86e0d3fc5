/- The laws' own helpers on rows of texts and of numbers: what they compute; no condition. -/
import Derived.Test.YtiapaggkbhdnkaaDoorBase
import Derived.Test.YtiapaggkbhdnkaaDoorQLawStr
import Derived.Test.YtiapaggkbhdnkaaDoorQLawInt
namespace Go.Proofs.YtiapaggkbhdnkaaDoor.Q
open Go.RowKit Go.Proofs.YtiapaggkbhdnkaaDoorW.PrintWords Go.Proofs.YtiapaggkbhdnkaaDoor.Pure
set_option linter.unusedVariables false
set_option linter.unusedSimpArgs false


theorem laws_toInt64S.val (l : List Int) (hl : l.length ≤ 35184372088832) : laws_toInt64S.f (l.length + 1) l = some l := by
  unfold laws_toInt64S.f
  rw [if_pos (by omega), if_pos (by omega)]
  refine scan_copy (n := l.length) (l := fun k i x => laws_toInt64S.l0 k l x i) rfl (fun k i x hi hx => ?_) (fun k x hx => ?_) _ (by omega) _ (by simp)
  · simp only [laws_toInt64S.l0]
    rw [if_pos (by omega), if_pos (by omega), if_pos (by omega), wrap_succ hi (by omega), rd_get _ _ hi, Int.toNat_natCast]
  · simp [laws_toInt64S.l0]

theorem laws_eqStringS.val (l m : List ByteArray) (hl : l.length ≤ 9223372036854775807) : laws_eqStringS.f (l.length + 1) l m = some (decide (l = m)) := by
  unfold laws_eqStringS.f
  by_cases h : l.length = m.length
  · rw [if_pos (by omega)]
    have := scan_all (n := l.length) (l := fun k i => laws_eqStringS.l0 k l m i) (p := fun i => decide (rdOf ByteArray.empty l (i : Nat) = rdOf ByteArray.empty m (i : Nat))) (b := true) (fun k i hi => ?_) (fun k => ?_) (l.length + 1) (by omega)
    · rw [all_eq_get l m h _ (fun i hi => by rw [rdOf_get _ _ _ hi, rdOf_get _ m i (by omega)]), Bool.and_true] at this
      exact this
    · simp only [laws_eqStringS.l0, bytes_eq, decide_eq_true_iff]
      rw [if_pos (by omega), if_pos (by omega), if_pos (by omega), wrap_succ hi (by omega)]
    · simp [laws_eqStringS.l0]
  · rw [if_neg (by omega), decide_eq_false (fun e => h (by rw [e]))]

theorem laws_eqInt64S.val (l m : List Int) (hl : l.length ≤ 9223372036854775807) : laws_eqInt64S.f (l.length + 1) l m = some (decide (l = m)) := by
  unfold laws_eqInt64S.f
  by_cases h : l.length = m.length
  · rw [if_pos (by omega)]
    have := scan_all (n := l.length) (l := fun k i => laws_eqInt64S.l0 k l m i) (p := fun i => decide (rd l (i : Nat) = rd m (i : Nat))) (b := true) (fun k i hi => ?_) (fun k => ?_) (l.length + 1) (by omega)
    · rw [all_eq_get l m h _ (fun i hi => by rw [rd_get _ _ hi, rd_get m i (by omega)]), Bool.and_true] at this
      exact this
    · simp only [laws_eqInt64S.l0, decide_eq_true_iff]
      rw [if_pos (by omega), if_pos (by omega), if_pos (by omega), wrap_succ hi (by omega)]
    · simp [laws_eqInt64S.l0]
  · rw [if_neg (by omega), decide_eq_false (fun e => h (by rw [e]))]

end Go.Proofs.YtiapaggkbhdnkaaDoor.Q
