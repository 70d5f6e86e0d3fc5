/- A sign's value fits in its kind; no condition. -/
import Derived.Test.YtnacfljfalkonaaQpureSystem
namespace Go.Proofs.Ytnacfljfalkonaa.Q
open Go.RowKit Go.Proofs.YtnacfljfalkonaaW.PrintWords Go.Proofs.Ytnacfljfalkonaa.Pure
set_option linter.unusedVariables false

theorem toS_fit (a : List LSG) (h : ∀ z ∈ a, (Lit.int .u8 z.f0).wf = true ∧ (Lit.int .i16 z.f1).wf = true) : ((toS a).all (fun x => decide (-32768 ≤ x.f1) && decide (x.f1 ≤ 32767))) = true := by
  rw [List.all_eq_true]
  intro x hx
  obtain ⟨y, hy, rfl⟩ := List.mem_map.1 hx
  have := (h y hy).2
  have e1 : IntKind.i16.min = -32768 := rfl
  have e2 : IntKind.i16.max = 32767 := rfl
  simp only [Lit.wf] at this
  simp at this ⊢
  omega
end Go.Proofs.Ytnacfljfalkonaa.Q
