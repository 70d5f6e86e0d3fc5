/- The law on Readings holds: program and reference list the same readings. -/
import Derived.Test.YtdhhnkhgmoblhaaDoorQhandSureC
import Derived.Test.YtdhhnkhgmoblhaaDoorQlawsFnExactSureLetters
import Derived.Test.YtdhhnkhgmoblhaaDoorQPureM
import Derived.Test.YtdhhnkhgmoblhaaDoorOpenSystem
namespace Go.Proofs.YtdhhnkhgmoblhaaDoor.Q
open Go.RowKit Go.Proofs.YtdhhnkhgmoblhaaDoorW.PrintWords Go.Proofs.YtdhhnkhgmoblhaaDoorW.PrintLast Go.Proofs.YtdhhnkhgmoblhaaDoorW.PrintMore
open Go.Proofs.YtdhhnkhgmoblhaaDoor.Pure
set_option linter.unusedVariables false
set_option linter.unusedSimpArgs false

theorem laws_FnExactSureLetters.pure (a : List LSG) (b : List MP) (t : ByteArray) (ha : a.length ≤ 9223372036854775807) (hb : b.length ≤ 9223372036854775807) (hw : ∀ z ∈ a, (Lit.int .u8 z.f0).wf = true ∧ (Lit.int .i16 z.f1).wf = true) (k : Nat) (hk : 2097180 ≤ k) : laws_FnExactSureLetters.f k a b t = some true := by
  obtain ⟨k, rfl⟩ : ∃ j, k = j + 1 := ⟨k - 1, by omega⟩
  unfold laws_FnExactSureLetters.f
  by_cases h0 : (t.size : Int) > 1048576
  · rw [if_pos h0]
  rw [if_neg h0]
  obtain ⟨r1, e1, h1⟩ := laws_szSystem.val a b ha hb 1048576 (by omega) (by omega)
  rw [e1, Option.bind_some]
  by_cases n1 : r1 < 0
  · rw [if_pos n1]
  rw [if_neg n1]
  have la := toS_len a
  have hf := toS_fit a hw
  have hla : a.length ≤ 1048576 := by omega
  have hlb : b.length ≤ 1048576 := by omega
  have hls : (toS a).length ≤ 1048576 := by omega
  have T := fun k (h : 2097160 ≤ k) => laws_toSystem.val a b hla hlb k (by omega) (by omega)
  have S : spec_SureLetters.f (toS a) b t = some (sureS (toS a) b t) := if_pos ⟨hls, hlb, hf, by omega⟩
  have I : impl_SureLetters.f (toS a) b t = some (sureS (toS a) b t) := S
  have E := fun k (h : 2097160 ≤ k) => laws_eqSystem.refl (toS a) b (by omega) (by omega) k (by omega) (by omega)
  have cc : ((sureS (toS a) b t).2 != (sureS (toS a) b t).2) = false := by simp
  have k1 : 2097160 ≤ k + 1 := by omega
  have k0 : 2097160 ≤ k := by omega
  rw [T _ k1, Option.bind_some, S, Option.bind_some, Option.bind_some, I, Option.bind_some, if_pos rfl, cc]
  rw [laws_FnExactSureLetters.j0]
  rw [if_neg (by simp), T _ k0, Option.bind_some, E _ k0, Option.bind_some, if_pos rfl]
theorem laws_FnExactSureLetters.holds (W : World) (G : Glob W) {a0 : List LSG × List MP} {cs0 : List Value} (t : ByteArray) (h0 : Open.kSys.K W a0 cs0) (g0 : (∀ z ∈ a0.1, (Lit.int .u8 z.f0).wf = true ∧ (Lit.int .i16 z.f1).wf = true) ∧ (∀ z ∈ a0.2, (Lit.int .u8 z.f0).wf = true ∧ (Lit.int .u8 z.f1).wf = true)) :
    Calls Tryd.prog 4 #[.agg cs0.toArray, .string t] W fun e w' => e = .returned (.bool true) ∧ Below W.heap.size W w' := by
  obtain ⟨A, c, B, d, rfl, p1, p2, p3, p4⟩ := Open.kSys_open h0
  exact laws_FnExactSureLetters.calls 2097180 A c a0.1 B d a0.2 t true W G p2 p1 p4 p3 (laws_FnExactSureLetters.pure _ _ _ (Kd.C_max p2) (Kd.C_max p4) g0.1 _ (Nat.le_refl _))
end Go.Proofs.YtdhhnkhgmoblhaaDoor.Q
