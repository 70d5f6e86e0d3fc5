/- The law on SystemText holds: program and reference tell the same text. -/
import Derived.Test.YtdhhnkhgmoblhaaDoorQhandSysTextC
import Derived.Test.YtdhhnkhgmoblhaaDoorQlawsFnExactSystemText
import Derived.Test.YtdhhnkhgmoblhaaDoorQpureFit
import Derived.Test.YtdhhnkhgmoblhaaDoorOpenSystem
namespace Go.Proofs.YtdhhnkhgmoblhaaDoor.Q
open Go.RowKit Go.Proofs.YtdhhnkhgmoblhaaDoorW.PrintWords Go.Proofs.YtdhhnkhgmoblhaaDoorW.PrintLast Go.Proofs.YtdhhnkhgmoblhaaDoorW.PrintMore
open Go.Proofs.YtdhhnkhgmoblhaaDoor.Pure
set_option linter.unusedVariables false

theorem laws_FnExactSystemText.pure (a : List LSG) (b : List MP) (ha : a.length ≤ 9223372036854775807) (hb : b.length ≤ 9223372036854775807) (hw : ∀ z ∈ a, (Lit.int .u8 z.f0).wf = true ∧ (Lit.int .i16 z.f1).wf = true) (k : Nat) (hk : 2097170 ≤ k) : laws_FnExactSystemText.f k a b = some true := by
  unfold laws_FnExactSystemText.f
  obtain ⟨r1, e1, h1⟩ := laws_szSystem.val a b ha hb 1048576 (by omega) (by omega)
  rw [e1, Option.bind_some]
  by_cases n1 : r1 < 0
  · rw [if_pos n1]
  rw [if_neg n1]
  have la := toS_len a
  have hf := toS_fit a hw
  have T1 := laws_toSystem.val a b (by omega) (by omega) k (by omega) (by omega)
  have hS : spec_SystemText.f (toS a) b = some (textOf (toS a) b) := if_pos ⟨by omega, by omega, hf⟩
  have hI : impl_SystemText.f (toS a) b = some (textOf (toS a) b) := hS
  simp only [T1, Option.bind_some, hS, hI]
  rw [if_pos trivial, laws_eqSystem.refl (toS a) b (by omega) (by omega) k (by omega) (by omega), Option.bind_some, if_pos rfl]
theorem laws_FnExactSystemText.holds (W : World) (G : GlobP W) {a0 : List LSG × List MP} {cs0 : List Value} (h0 : Open.kSys.K W a0 cs0) (g0 : (∀ z ∈ a0.1, (Lit.int .u8 z.f0).wf = true ∧ (Lit.int .i16 z.f1).wf = true) ∧ (∀ z ∈ a0.2, (Lit.int .u8 z.f0).wf = true ∧ (Lit.int .u8 z.f1).wf = true)) :
    Calls Tryd.prog 3 #[.agg cs0.toArray] W fun e w' => e = .returned (.bool true) ∧ Below W.heap.size W w' := by
  obtain ⟨A, c, B, d, rfl, p1, p2, p3, p4⟩ := Open.kSys_open h0
  exact laws_FnExactSystemText.calls 2097170 A c a0.1 B d a0.2 true W G p2 p1 p4 p3 (laws_FnExactSystemText.pure _ _ (Kd.C_max p2) (Kd.C_max p4) g0.1 _ (Nat.le_refl _))
end Go.Proofs.YtdhhnkhgmoblhaaDoor.Q
