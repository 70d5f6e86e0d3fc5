/- The law SameSystem holds: two systems are alike where their signs and pairs are; no condition. -/
import Derived.Test.YtcaidohboacokaaQpureSystem
import Derived.Test.YtcaidohboacokaaQlawsFnExactSameSystem
import Derived.Test.YtcaidohboacokaaOpenSystem
namespace Go.Proofs.Ytcaidohboacokaa.Q
open Go.RowKit Go.Proofs.YtcaidohboacokaaW.PrintWords Go.Proofs.Ytcaidohboacokaa.Pure
set_option linter.unusedVariables false

theorem SG_test (x y : SG) : ((!(x.f0 == y.f0) || (!(x.f1 == y.f1))) = true) = ¬ x = y := by
  rw [eq_iff_iff, SG_eq]
  simp only [Bool.or_eq_true, Bool.not_eq_true', beq_eq_false_iff_ne]
  omega
theorem MP_test (x y : MP) : ((!(x.f0 == y.f0) || (!(x.f1 == y.f1))) = true) = ¬ x = y := by
  rw [eq_iff_iff, MP_eq]
  simp only [Bool.or_eq_true, Bool.not_eq_true', beq_eq_false_iff_ne]
  omega
theorem slices_Equal_impl_Sign.val (l m : List SG) (hl : l.length ≤ 9223372036854775806) (k : Nat) (hk : l.length < k) : slices_Equal_impl_Sign.f k l m = some (decide (l = m)) := by
  unfold slices_Equal_impl_Sign.f
  by_cases h : l.length = m.length
  · rw [if_pos (by omega)]
    have := scan_all (n := l.length) (l := fun k i => slices_Equal_impl_Sign.l0 k l m (l.length : Int) i) (p := fun i => decide (rd_T58 l (i : Nat) = rd_T58 m (i : Nat))) (b := true) (fun k i hi => ?_) (fun k => ?_) k hk
    · rw [all_eq_get l m h _ (fun i hi => by rw [rdSG_get _ _ hi, rdSG_get m i (by omega)]), Bool.and_true] at this
      exact this
    · simp only [slices_Equal_impl_Sign.l0]
      rw [if_pos (by omega), if_pos (by omega), if_pos (by omega), if_pos (by omega), wrap_succ hi (by omega)]
      simp only [SG_test, ite_not, decide_eq_true_iff]
    · simp [slices_Equal_impl_Sign.l0]
  · rw [if_neg (by omega), decide_eq_false (fun e => h (by rw [e]))]
theorem slices_Equal_uint8.val (l m : List MP) (hl : l.length ≤ 9223372036854775806) (k : Nat) (hk : l.length < k) : slices_Equal_uint8.f k l m = some (decide (l = m)) := by
  unfold slices_Equal_uint8.f
  by_cases h : l.length = m.length
  · rw [if_pos (by omega)]
    have := scan_all (n := l.length) (l := fun k i => slices_Equal_uint8.l0 k l m (l.length : Int) i) (p := fun i => decide (rd_T59 l (i : Nat) = rd_T59 m (i : Nat))) (b := true) (fun k i hi => ?_) (fun k => ?_) k hk
    · rw [all_eq_get l m h _ (fun i hi => by rw [rdA2_get _ _ hi, rdA2_get m i (by omega)]), Bool.and_true] at this
      exact this
    · simp only [slices_Equal_uint8.l0]
      rw [if_pos (by omega), if_pos (by omega), if_pos (by omega), if_pos (by omega), wrap_succ hi (by omega)]
      simp only [MP_test, ite_not, decide_eq_true_iff]
    · simp [slices_Equal_uint8.l0]
  · rw [if_neg (by omega), decide_eq_false (fun e => h (by rw [e]))]
theorem impl_SameSystem.val (a c : List SG) (b d : List MP) (ha : a.length ≤ 9223372036854775806) (hb : b.length ≤ 9223372036854775806) (k : Nat) (hka : a.length < k) (hkb : b.length < k) : impl_SameSystem.f k a b c d = some (decide (a = c) && decide (b = d)) := by
  unfold impl_SameSystem.f
  rw [slices_Equal_impl_Sign.val a c ha k hka, Option.bind_some]
  by_cases h : a = c
  · rw [if_pos (by simpa using h), slices_Equal_uint8.val b d hb k hkb, Option.bind_some, decide_eq_true h, Bool.true_and]
  · rw [if_neg (by simpa using h), decide_eq_false h, Bool.false_and]
theorem spec_SameSystem.val1 (a c : List SG) (b d : List MP) (hb : b.length ≤ 9223372036854775806) (h : b.length = d.length) (k : Nat) (hkb : b.length < k) : spec_SameSystem.l1 k 0 a b c d = some (decide (b = d)) := by
  have := scan_all (n := b.length) (l := fun k i => spec_SameSystem.l1 k i a b c d) (p := fun i => decide (rd_T59 b (i : Nat) = rd_T59 d (i : Nat))) (b := true) (fun k i hi => ?_) (fun k => ?_) k hkb
  · rw [all_eq_get b d h _ (fun i hi => by rw [rdA2_get _ _ hi, rdA2_get d i (by omega)]), Bool.and_true] at this
    exact this
  · simp only [spec_SameSystem.l1]
    rw [if_pos (by omega), if_pos (by omega), if_pos (by omega), wrap_succ hi (by omega)]
    simp only [MP_test, ite_not, decide_eq_true_iff]
  · simp only [spec_SameSystem.l1]
    rw [if_neg (by omega)]
theorem spec_SameSystem.val0 (a c : List SG) (b d : List MP) (ha : a.length ≤ 9223372036854775806) (hb : b.length ≤ 9223372036854775806) (h0 : a.length = c.length) (h : b.length = d.length) (k : Nat) (hk : a.length + (b.length + 1) < k) : spec_SameSystem.l0 k 0 a b c d = some (decide (a = c) && decide (b = d)) := by
  have := scan_allM (n := a.length) (M := b.length + 1) (l := fun k i => spec_SameSystem.l0 k i a b c d) (p := fun i => decide (rd_T58 a (i : Nat) = rd_T58 c (i : Nat))) (b := decide (b = d)) (fun k i hi hM => ?_) (fun k hM => ?_) k hk
  · rw [all_eq_get a c h0 _ (fun i hi => by rw [rdSG_get _ _ hi, rdSG_get c i (by omega)])] at this
    exact this
  · simp only [spec_SameSystem.l0]
    rw [if_pos (by omega), if_pos (by omega), if_pos (by omega), wrap_succ hi (by omega)]
    simp only [SG_test, ite_not, decide_eq_true_iff]
  · simp only [spec_SameSystem.l0]
    rw [if_neg (by omega), spec_SameSystem.val1 a c b d hb h k (by omega)]
theorem spec_SameSystem.val (a c : List SG) (b d : List MP) (ha : a.length ≤ 9223372036854775806) (hb : b.length ≤ 9223372036854775806) (k : Nat) (hk : a.length + b.length + 2 < k) : spec_SameSystem.f k a b c d = some (decide (a = c) && decide (b = d)) := by
  obtain ⟨k, rfl⟩ : ∃ m, k = m + 1 := ⟨k - 1, by omega⟩
  unfold spec_SameSystem.f
  by_cases h0 : a.length = c.length
  · rw [if_pos (by omega)]
    simp only [spec_SameSystem.j0]
    by_cases h1 : b.length = d.length
    · rw [if_neg (by simp; omega), spec_SameSystem.val0 a c b d ha hb h0 h1 k (by omega)]
    · rw [if_pos (by simp; omega), decide_eq_false (p := b = d) (fun e => h1 (by rw [e])), Bool.and_false]
  · rw [if_neg (by omega)]
    simp only [spec_SameSystem.j0]
    rw [if_pos trivial, decide_eq_false (p := a = c) (fun e => h0 (by rw [e])), Bool.false_and]
theorem laws_FnExactSameSystem.pure (a c : List LSG) (b d : List MP) (ha : a.length ≤ 9223372036854775807) (hb : b.length ≤ 9223372036854775807) (hc : c.length ≤ 9223372036854775807) (hd : d.length ≤ 9223372036854775807) (k : Nat) (hk : 2097160 ≤ k) :
    laws_FnExactSameSystem.f k a b c d = some true := by
  unfold laws_FnExactSameSystem.f
  obtain ⟨r1, e1, h1⟩ := laws_szSystem.val a b ha hb 1048576 (by omega) (by omega)
  rw [e1, Option.bind_some]
  by_cases n1 : r1 < 0
  · rw [if_pos n1]
  rw [if_neg n1]
  obtain ⟨r2, e2, h2⟩ := laws_szSystem.val c d hc hd r1 (by omega) (by omega)
  rw [e2, Option.bind_some]
  by_cases n2 : r2 < 0
  · rw [if_pos n2]
  rw [if_neg n2]
  have T1 := laws_toSystem.val a b (by omega) (by omega) k (by omega) (by omega)
  have T2 := laws_toSystem.val c d (by omega) (by omega) k (by omega) (by omega)
  have la := toS_len a
  have lc := toS_len c
  simp only [T1, T2, Option.bind_some]
  rw [spec_SameSystem.val (toS a) (toS c) b d (by omega) (by omega) k (by omega), Option.bind_some, impl_SameSystem.val (toS a) (toS c) b d (by omega) (by omega) k (by omega) (by omega), Option.bind_some, if_neg (by simp),
    laws_eqSystem.refl (toS a) b (by omega) (by omega) k (by omega) (by omega), Option.bind_some, if_pos rfl, laws_eqSystem.refl (toS c) d (by omega) (by omega) k (by omega) (by omega), Option.bind_some, if_pos rfl]
theorem laws_FnExactSameSystem.holds (W : World) {a0 a1 : List LSG × List MP} {cs0 cs1 : List Value} (h0 : Open.kSys.K W a0 cs0) (h1 : Open.kSys.K W a1 cs1) :
    Calls Try.prog 4 #[.agg cs0.toArray, .agg cs1.toArray] W fun e w' => e = .returned (.bool true) ∧ Below W.heap.size W w' := by
  obtain ⟨A, c, B, d, rfl, p1, p2, p3, p4⟩ := Open.kSys_open h0
  obtain ⟨A', c', B', d', rfl, q1, q2, q3, q4⟩ := Open.kSys_open h1
  exact laws_FnExactSameSystem.calls 2097160 A c a0.1 B d a0.2 A' c' a1.1 B' d' a1.2 true W p2 p1 p4 p3 q2 q1 q4 q3 (laws_FnExactSameSystem.pure _ _ _ _ (Kd.C_max p2) (Kd.C_max p4) (Kd.C_max q2) (Kd.C_max q4) _ (Nat.le_refl _))
end Go.Proofs.Ytcaidohboacokaa.Q
