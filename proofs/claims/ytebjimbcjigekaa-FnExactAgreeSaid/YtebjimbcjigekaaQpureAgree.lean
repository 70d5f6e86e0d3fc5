/- The law on Agree: program and reference answer alike, whatever the two texts. -/
import Derived.Test.YtebjimbcjigekaaQlawsFnExactAgree
import Derived.Test.YtebjimbcjigekaaQpureWorn
import Derived.Test.YtebjimbcjigekaaQhandSpecAgree
namespace Go.Proofs.Ytebjimbcjigekaa.Q
open Go.RowKit Go.Proofs.YtebjimbcjigekaaW.PrintWords Go.Proofs.YtebjimbcjigekaaW.PrintLast Go.Proofs.YtebjimbcjigekaaW.PrintMore
open Go.Proofs.Ytebjimbcjigekaa.Pure
set_option linter.unusedVariables false

theorem laws_FnExactAgree.val (a b : ByteArray) (ha : a.size ≤ 9223372036854775807) (hb : b.size ≤ 9223372036854775807) : ∃ k, laws_FnExactAgree.f k a b = some true := by
  refine ⟨a.size + b.size + 1, ?_⟩
  have ka : impl_isWorn.f (a.size + b.size + 1) a = some (wornB a) := at_rounds (impl_isWorn.mono a) (by omega) (impl_isWorn.val a (by omega))
  have kb : impl_isWorn.f (a.size + b.size + 1) b = some (wornB b) := at_rounds (impl_isWorn.mono b) (by omega) (impl_isWorn.val b (by omega))
  unfold laws_FnExactAgree.f
  by_cases h1 : (a.size : Int) > 1048576
  · rw [if_pos h1]
  rw [if_neg h1]
  by_cases h2 : (b.size : Int) > 1048576
  · rw [if_pos h2]
  rw [if_neg h2]
  have hs : spec_Agree.f a b = some (agreeV a b) := by unfold spec_Agree.f; rw [if_pos ⟨by omega, by omega⟩]
  have hi : impl_Agree.f (a.size + b.size + 1) a b = some (agreeV a b) := by
    have hm : impl_agree.f a b = some (agreeM a b) := by unfold impl_agree.f; rw [if_pos (by omega)]
    unfold impl_Agree.f impl_Agree.j0
    simp only [ka, kb, hm, Option.bind_some]
    unfold agreeV agreeM
    cases wornB a <;> cases wornB b <;> simp
    by_cases hl : a.size = b.size
    · cases hf : fineB a b a.size <;> simp [hl] <;> simp_all
    · simp [hl]
  rw [hs, hi]
  simp
theorem laws_FnExactAgree.holds (a b : ByteArray) (W : World) (ha : a.size ≤ 9223372036854775807) (hb : b.size ≤ 9223372036854775807) :
    Calls Try.prog 6 #[.string a, .string b] W fun e w' => e = .returned (.bool true) ∧ Below W.heap.size W w' := by
  obtain ⟨k, h⟩ := laws_FnExactAgree.val a b ha hb
  exact laws_FnExactAgree.calls k a b true W h
end Go.Proofs.Ytebjimbcjigekaa.Q
