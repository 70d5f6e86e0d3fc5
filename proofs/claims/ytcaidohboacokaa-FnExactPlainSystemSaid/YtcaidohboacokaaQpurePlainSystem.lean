/- The law PlainSystem holds; no condition. -/
import Derived.Test.YtcaidohboacokaaQlawsFnExactPlainSystem
import Derived.Test.YtcaidohboacokaaQpureFit
import Derived.Test.YtcaidohboacokaaQpureSystemM
import Derived.Test.YtcaidohboacokaaOpenSystem
namespace Go.Proofs.Ytcaidohboacokaa.Q
open Go.RowKit Go.Proofs.YtcaidohboacokaaW.PrintWords Go.Proofs.Ytcaidohboacokaa.Pure
set_option linter.unusedVariables false

def plainOf (s : List SG) (m : List MP) : List SG × List MP × Int := if okB s m = true then (s, [], 0) else ([], [], 1)
theorem headB_len {s : List SG} {m : List MP} (h : okB s m = true) : 1 ≤ s.length ∧ s.length ≤ 8 := by
  unfold okB headB at h
  simp only [Bool.and_eq_true, decide_eq_true_iff] at h
  omega
theorem spec_PlainSystem.val (s : List SG) (m : List MP) (hs : s.length ≤ 1048576) (hm : m.length ≤ 1048576) (hf : (s.all (fun x => decide (-32768 ≤ x.f1) && decide (x.f1 ≤ 32767))) = true) : spec_PlainSystem.f s m = some (plainOf s m) := by
  unfold spec_PlainSystem.f spec_l03Ok.f plainOf
  rw [if_pos hs, if_pos ⟨hs, hm, hf⟩, Option.bind_some]
  cases okB s m <;> rfl
theorem impl_PlainSystem.val (s : List SG) (m : List MP) (hs : s.length ≤ 1048576) (hm : m.length ≤ 1048576) (hf : (s.all (fun x => decide (-32768 ≤ x.f1) && decide (x.f1 ≤ 32767))) = true) : impl_PlainSystem.f s m = some (plainOf s m) := by
  unfold impl_PlainSystem.f impl_ValidSystem.f plainOf
  rw [if_pos ⟨hs, hm, hf⟩, Option.bind_some]
  cases h : okB s m with
  | false => rfl
  | true =>
    have := headB_len h
    rw [if_pos rfl, if_pos rfl]
    unfold slices_Clone_impl_Sign.f
    rw [if_pos ⟨by omega, by omega⟩, Option.bind_some]
theorem plainOf_len (s : List SG) (m : List MP) : (plainOf s m).1.length ≤ s.length ∧ (plainOf s m).2.1.length = 0 := by
  unfold plainOf
  split
  · exact ⟨Nat.le_refl _, rfl⟩
  · exact ⟨Nat.zero_le _, rfl⟩
theorem laws_FnExactPlainSystem.pure (a : List LSG) (b : List MP) (ha : a.length ≤ 9223372036854775807) (hb : b.length ≤ 9223372036854775807) (hw : ∀ z ∈ a, (Lit.int .u8 z.f0).wf = true ∧ (Lit.int .i16 z.f1).wf = true) (k : Nat) (hk : 2097180 ≤ k) : laws_FnExactPlainSystem.f k a b = some true := by
  obtain ⟨k, rfl⟩ : ∃ j, k = j + 1 := ⟨k - 1, by omega⟩
  obtain ⟨k, rfl⟩ : ∃ j, k = j + 1 := ⟨k - 1, by omega⟩
  obtain ⟨k, rfl⟩ : ∃ j, k = j + 1 := ⟨k - 1, by omega⟩
  unfold laws_FnExactPlainSystem.f
  obtain ⟨r1, e1, h1⟩ := laws_szSystem.val a b ha hb 1048576 (by omega) (by omega)
  rw [e1, Option.bind_some]
  by_cases n1 : r1 < 0
  · rw [if_pos n1]
  rw [if_neg n1]
  have la := toS_len a
  have hf := toS_fit a hw
  have hla : a.length ≤ 1048576 := by omega
  have hlb : b.length ≤ 1048576 := by omega
  have hls : (toS a).length ≤ 1048576 := by omega
  have T := fun k (h : 2097160 ≤ k) => laws_toSystem.val a b hla hlb k (by omega) (by omega)
  have S := spec_PlainSystem.val (toS a) b hls hlb hf
  have I := impl_PlainSystem.val (toS a) b hls hlb hf
  have E := fun k (h : 2097160 ≤ k) => laws_eqSystem.refl (toS a) b (by omega) (by omega) k (by omega) (by omega)
  have MK := fun k (h : 2097160 ≤ k) => laws_markSystem.val (toS a) b (by omega) (by omega) k (by omega)
  have hp := plainOf_len (toS a) b
  generalize plainOf (toS a) b = p at S I hp
  have EP := fun k (h : 2097160 ≤ k) => laws_eqSystem.refl p.1 p.2.1 (by omega) (by omega) k (by omega) (by omega)
  have MP := fun k (h : 2097160 ≤ k) => laws_markSystem.val p.1 p.2.1 (by omega) (by omega) k (by omega)
  have HP := fun k (h : 2097160 ≤ k) => laws_heldSystem.val p.1 p.2.1 (by omega) (by omega) k (by omega)
  have k0 : 2097160 ≤ k := by omega
  have k1 : 2097160 ≤ k + 1 := by omega
  have k2 : 2097160 ≤ k + 1 + 1 := by omega
  have k3 : 2097160 ≤ k + 1 + 1 + 1 := by omega
  have n2 : ¬ 1 + 2 * ((toS a).length : Int) + 2 * (b.length : Int) < 0 := by omega
  have n3 : ¬ 1 + 2 * (p.1.length : Int) + 2 * (p.2.1.length : Int) < 0 := by omega
  have cc : (p.2.2 != p.2.2) = true ↔ False := by simp
  simp only [T _ k3, S, I, Option.bind_some, EP _ k3, if_true, laws_FnExactPlainSystem.j0, cc, if_false, T _ k2, E _ k2, MK _ k2, if_neg n2, EP _ k2, laws_FnExactPlainSystem.j1, MP _ k1, HP _ k1, if_neg n3, T _ k1, EP _ k1, laws_FnExactPlainSystem.j2, HP _ k0]
theorem laws_FnExactPlainSystem.holds (W : World) {a0 : List LSG × List MP} {cs0 : List Value} (h0 : Open.kSys.K W a0 cs0) (g0 : (∀ z ∈ a0.1, (Lit.int .u8 z.f0).wf = true ∧ (Lit.int .i16 z.f1).wf = true) ∧ (∀ z ∈ a0.2, (Lit.int .u8 z.f0).wf = true ∧ (Lit.int .u8 z.f1).wf = true)) :
    Calls Try.prog 6 #[.agg cs0.toArray] W fun e w' => e = .returned (.bool true) ∧ Below W.heap.size W w' := by
  obtain ⟨A, c, B, d, rfl, p1, p2, p3, p4⟩ := Open.kSys_open h0
  exact laws_FnExactPlainSystem.calls 2097180 A c a0.1 B d a0.2 true W p2 p1 p4 p3 (laws_FnExactPlainSystem.pure _ _ (Kd.C_max p2) (Kd.C_max p4) g0.1 _ (Nat.le_refl _))
end Go.Proofs.Ytcaidohboacokaa.Q
