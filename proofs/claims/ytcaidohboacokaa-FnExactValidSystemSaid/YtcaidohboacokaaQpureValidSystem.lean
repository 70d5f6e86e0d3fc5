/- The law ValidSystem holds: both answer whether a system is valid; no condition. -/
import Derived.Test.YtcaidohboacokaaQlawsFnExactValidSystem
import Derived.Test.YtcaidohboacokaaOpenSystem
namespace Go.Proofs.Ytcaidohboacokaa.Q
open Go.RowKit Go.Proofs.YtcaidohboacokaaW.PrintWords Go.Proofs.Ytcaidohboacokaa.Pure
set_option linter.unusedVariables false

theorem toS_fit (a : List LSG) (h : ∀ z ∈ a, (Lit.int .u8 z.f0).wf = true ∧ (Lit.int .i16 z.f1).wf = true) : ((toS a).all (fun x => decide (-32768 ≤ x.f1) && decide (x.f1 ≤ 32767))) = true := by
  rw [List.all_eq_true]
  intro x hx
  obtain ⟨y, hy, rfl⟩ := List.mem_map.1 hx
  have := (h y hy).2
  have e1 : IntKind.i16.min = -32768 := rfl
  have e2 : IntKind.i16.max = 32767 := rfl
  simp only [Lit.wf] at this
  simp at this ⊢
  omega
theorem laws_FnExactValidSystem.pure (a : List LSG) (b : List MP) (ha : a.length ≤ 9223372036854775807) (hb : b.length ≤ 9223372036854775807) (hw : ∀ z ∈ a, (Lit.int .u8 z.f0).wf = true ∧ (Lit.int .i16 z.f1).wf = true) (k : Nat) (hk : 2097160 ≤ k) : laws_FnExactValidSystem.f k a b = some true := by
  unfold laws_FnExactValidSystem.f
  obtain ⟨r1, e1, h1⟩ := laws_szSystem.val a b ha hb 1048576 (by omega) (by omega)
  rw [e1, Option.bind_some]
  by_cases n1 : r1 < 0
  · rw [if_pos n1]
  rw [if_neg n1]
  have T1 := laws_toSystem.val a b (by omega) (by omega) k (by omega) (by omega)
  have la := toS_len a
  have hf := toS_fit a hw
  have e2 : spec_ValidSystem.f (toS a) b = some (okB (toS a) b) := by unfold spec_ValidSystem.f spec_l03Ok.f; rw [if_pos ⟨by omega, by omega, hf⟩]
  have e3 : impl_ValidSystem.f (toS a) b = some (okB (toS a) b) := by unfold impl_ValidSystem.f; rw [if_pos ⟨by omega, by omega, hf⟩]
  simp only [T1, Option.bind_some, e2, e3]
  rw [if_neg (by simp), laws_eqSystem.refl (toS a) b (by omega) (by omega) k (by omega) (by omega), Option.bind_some, if_pos rfl]
theorem laws_FnExactValidSystem.holds (W : World) {a0 : List LSG × List MP} {cs0 : List Value} (h0 : Open.kSys.K W a0 cs0) (g0 : (∀ z ∈ a0.1, (Lit.int .u8 z.f0).wf = true ∧ (Lit.int .i16 z.f1).wf = true) ∧ (∀ z ∈ a0.2, (Lit.int .u8 z.f0).wf = true ∧ (Lit.int .u8 z.f1).wf = true)) :
    Calls Try.prog 5 #[.agg cs0.toArray] W fun e w' => e = .returned (.bool true) ∧ Below W.heap.size W w' := by
  obtain ⟨A, c, B, d, rfl, p1, p2, p3, p4⟩ := Open.kSys_open h0
  exact laws_FnExactValidSystem.calls 2097160 A c a0.1 B d a0.2 true W p2 p1 p4 p3 (laws_FnExactValidSystem.pure _ _ (Kd.C_max p2) (Kd.C_max p4) g0.1 _ (Nat.le_refl _))
end Go.Proofs.Ytcaidohboacokaa.Q
