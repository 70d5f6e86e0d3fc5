/- Words: program and reference alike. -/
import Derived.Test.YtfgifjdapojheaaDoorQpureText
import Derived.Test.YtfgifjdapojheaaDoorPure2
import Derived.Test.YtfgifjdapojheaaDoorQimplValidText
namespace Go.Proofs.YtfgifjdapojheaaDoor.Q
open Go.RowKit Go.Proofs.YtfgifjdapojheaaDoorW.PrintWords Go.Proofs.YtfgifjdapojheaaDoorW.PrintLast Go.Proofs.YtfgifjdapojheaaDoorW.PrintMore
open Go.Proofs.YtfgifjdapojheaaDoor.Pure
set_option linter.unusedVariables false

theorem contains_one (l : List UInt8) (c : UInt8) : Lib.contains l [c] = true ↔ ∃ i : Nat, l[i]? = some c := by
  have occ : ∀ i, Lib.occAt l [c] i = true ↔ l[i]? = some c := by
    intro i
    unfold Lib.occAt
    have e0 : (l.drop i)[0]? = l[i]? := by rw [List.getElem?_drop]; rfl
    rw [← e0]
    rcases l.drop i with _ | ⟨x, t⟩
    · simp [List.isPrefixOf]
    · simp only [List.isPrefixOf, Bool.and_true, beq_iff_eq, List.getElem?_cons_zero, Option.some.injEq]
      exact ⟨fun h => h.symm, fun h => h.symm⟩
  unfold Lib.contains
  rw [decide_eq_true_eq]
  rcases Lib.index_spec l [c] with ⟨h, hn⟩ | ⟨i, h, hi, ho, _⟩
  · rw [h]
    refine ⟨fun h => absurd h (by decide), fun ⟨i, h1⟩ => ?_⟩
    have := hn i (by have := (List.getElem?_eq_some_iff.1 h1).1; omega)
    rw [(occ i).2 h1] at this
    cases this
  · rw [h]
    exact ⟨fun _ => ⟨i, (occ i).1 ho⟩, fun _ => by omega⟩

theorem impl_ValidText.valM (a : ByteArray) (k : Nat) (hk : 61 ≤ k) : impl_ValidText.f k a = some (textB a) := by
  by_cases h : a.size ≤ 60
  · exact at_rounds (impl_ValidText.mono a) (by omega) (impl_ValidText.val a (by omega))
  · unfold impl_ValidText.f textB
    rw [if_neg (by omega)]
    simp [show ¬ ((a.size : Int) ≤ 60) by omega]

end Go.Proofs.YtfgifjdapojheaaDoor.Q
