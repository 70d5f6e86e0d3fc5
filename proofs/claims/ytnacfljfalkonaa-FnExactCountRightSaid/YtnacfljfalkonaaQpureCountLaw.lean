/- The law on CountRight: both answer the count; plain. -/
import Derived.Test.YtnacfljfalkonaaQlawsFnExactCountRight
import Derived.Test.YtnacfljfalkonaaQpureFit
import Derived.Test.YtnacfljfalkonaaOpenSystem
namespace Go.Proofs.Ytnacfljfalkonaa.Q
open Go.RowKit Go.Proofs.YtnacfljfalkonaaW.PrintWords Go.Proofs.YtnacfljfalkonaaW.PrintLast Go.Proofs.YtnacfljfalkonaaW.PrintMore
open Go.Proofs.Ytnacfljfalkonaa.Pure
set_option linter.unusedVariables false

theorem laws_FnExactCountRight.pure (a : List LSG) (b : List MP) (n l : Int) (ha : a.length ≤ 9223372036854775807) (hb : b.length ≤ 9223372036854775807) (hw : ∀ z ∈ a, (Lit.int .u8 z.f0).wf = true ∧ (Lit.int .i16 z.f1).wf = true) (k : Nat) (hk : 2097170 ≤ k) : laws_FnExactCountRight.f k a b n l = some true := by
  obtain ⟨k, rfl⟩ : ∃ j, k = j + 1 := ⟨k - 1, by omega⟩
  unfold laws_FnExactCountRight.f
  obtain ⟨r1, e1, h1⟩ := laws_szSystem.val a b ha hb 1048576 (by omega) (by omega)
  rw [e1, Option.bind_some]
  by_cases n1 : r1 < 0
  · rw [if_pos n1]
  rw [if_neg n1]
  have la := toS_len a
  have hf := toS_fit a hw
  have T1 := laws_toSystem.val a b (by omega) (by omega) (k + 1) (by omega) (by omega)
  have T0 := laws_toSystem.val a b (by omega) (by omega) k (by omega) (by omega)
  have g1 : spec_CountRight.f (toS a) b n l = some (countR (toS a) b n l) := if_pos ⟨by omega, by omega, hf⟩
  have g2 : impl_CountRight.f (toS a) b n l = some (countR (toS a) b n l) := g1
  simp only [T1, Option.bind_some, laws_FnExactCountRight.j0, T0, g1, g2]
  rw [if_pos trivial, if_neg (by simp), laws_eqSystem.refl (toS a) b (by omega) (by omega) k (by omega) (by omega), Option.bind_some, if_pos rfl]
theorem laws_FnExactCountRight.holds (W : World) {a0 : List LSG × List MP} {cs0 : List Value} (n l : Int) (h0 : Open.kSys.K W a0 cs0) (g0 : (∀ z ∈ a0.1, (Lit.int .u8 z.f0).wf = true ∧ (Lit.int .i16 z.f1).wf = true) ∧ (∀ z ∈ a0.2, (Lit.int .u8 z.f0).wf = true ∧ (Lit.int .u8 z.f1).wf = true)) :
    Calls Try.prog 4 #[.agg cs0.toArray, .int .i64 n, .int .i64 l] W fun e w' => e = .returned (.bool true) ∧ Below W.heap.size W w' := by
  obtain ⟨A, c, B, d, rfl, p1, p2, p3, p4⟩ := Open.kSys_open h0
  exact laws_FnExactCountRight.calls 2097170 A c a0.1 B d a0.2 n l true W p2 p1 p4 p3 (laws_FnExactCountRight.pure _ _ _ _ (Kd.C_max p2) (Kd.C_max p4) g0.1 _ (Nat.le_refl _))
end Go.Proofs.Ytnacfljfalkonaa.Q
