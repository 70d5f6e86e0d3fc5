/- The laws' own helpers on rows of texts and of numbers: what they compute; no condition. -/
import Derived.Test.YtfgifjdapojheaaDoorPure2
import Derived.Test.YtfgifjdapojheaaDoorQlawseqInt64S
namespace Go.Proofs.YtfgifjdapojheaaDoor.Q
open Go.RowKit Go.Proofs.YtfgifjdapojheaaDoorW.PrintWords Go.Proofs.YtfgifjdapojheaaDoor.Pure
set_option linter.unusedVariables false
set_option linter.unusedSimpArgs false




theorem laws_eqInt64S.val (l m : List Int) (hl : l.length ≤ 9223372036854775807) : laws_eqInt64S.f (l.length + 1) l m = some (decide (l = m)) := by
  unfold laws_eqInt64S.f
  by_cases h : l.length = m.length
  · rw [if_pos (by omega)]
    have := scan_all (n := l.length) (l := fun k i => laws_eqInt64S.l0 k l m i) (p := fun i => decide (rd l (i : Nat) = rd m (i : Nat))) (b := true) (fun k i hi => ?_) (fun k => ?_) (l.length + 1) (by omega)
    · rw [all_eq_get l m h _ (fun i hi => by rw [rd_get _ _ hi, rd_get m i (by omega)]), Bool.and_true] at this
      exact this
    · simp only [laws_eqInt64S.l0, decide_eq_true_iff]
      rw [if_pos (by omega), if_pos (by omega), if_pos (by omega), wrap_succ hi (by omega)]
    · simp [laws_eqInt64S.l0]
  · rw [if_neg (by omega), decide_eq_false (fun e => h (by rw [e]))]

end Go.Proofs.YtfgifjdapojheaaDoor.Q
