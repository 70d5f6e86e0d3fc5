/- The law on Readings holds: program and reference list the same readings. -/
import Derived.Test.YtdhhnkhgmoblhaaGreatDoorQhandValuesC
import Derived.Test.YtdhhnkhgmoblhaaGreatDoorQlawsFnExactValuesOf
import Derived.Test.YtdhhnkhgmoblhaaGreatDoorQPureM
import Derived.Test.YtdhhnkhgmoblhaaGreatDoorOpenSystem
namespace Go.Proofs.YtdhhnkhgmoblhaaGreatDoor.Q
open Go.RowKit Go.Proofs.YtdhhnkhgmoblhaaGreatDoorW.PrintWords Go.Proofs.YtdhhnkhgmoblhaaGreatDoorW.PrintLast Go.Proofs.YtdhhnkhgmoblhaaGreatDoorW.PrintMore
open Go.Proofs.YtdhhnkhgmoblhaaGreatDoor.Pure
set_option linter.unusedVariables false
set_option linter.unusedSimpArgs false

theorem values_len (s : List SG) (m : List MP) (t : ByteArray) : (valuesS s m t).1.length ≤ 501 := by
  have h := readS_len' s m t
  unfold valuesS
  split
  · have := insS_len ((readS s m t).1.map (sumB s m))
    rw [List.length_map] at this
    dsimp only
    omega
  · exact Nat.zero_le _
theorem laws_FnExactValuesOf.pure (a : List LSG) (b : List MP) (t : ByteArray) (ha : a.length ≤ 9223372036854775807) (hb : b.length ≤ 9223372036854775807) (hw : ∀ z ∈ a, (Lit.int .u8 z.f0).wf = true ∧ (Lit.int .i16 z.f1).wf = true) (k : Nat) (hk : 2097180 ≤ k) : laws_FnExactValuesOf.f k a b t = some true := by
  obtain ⟨k, rfl⟩ : ∃ j, k = j + 1 := ⟨k - 1, by omega⟩
  obtain ⟨k, rfl⟩ : ∃ j, k = j + 1 := ⟨k - 1, by omega⟩
  obtain ⟨k, rfl⟩ : ∃ j, k = j + 1 := ⟨k - 1, by omega⟩
  unfold laws_FnExactValuesOf.f
  by_cases h0 : (t.size : Int) > 1048576
  · rw [if_pos h0]
  rw [if_neg h0]
  obtain ⟨r1, e1, h1⟩ := laws_szSystem.val a b ha hb 1048576 (by omega) (by omega)
  rw [e1, Option.bind_some]
  by_cases n1 : r1 < 0
  · rw [if_pos n1]
  rw [if_neg n1]
  have la := toS_len a
  have hf := toS_fit a hw
  have hla : a.length ≤ 1048576 := by omega
  have hlb : b.length ≤ 1048576 := by omega
  have hls : (toS a).length ≤ 1048576 := by omega
  have T := fun k (h : 2097160 ≤ k) => laws_toSystem.val a b hla hlb k (by omega) (by omega)
  have S : spec_ValuesOf.f (toS a) b t = some (valuesS (toS a) b t) := if_pos ⟨hls, hlb, hf, by omega⟩
  have I : impl_ValuesOf.f (toS a) b t = some (valuesS (toS a) b t) := S
  have E := fun k (h : 2097160 ≤ k) => laws_eqSystem.refl (toS a) b (by omega) (by omega) k (by omega) (by omega)
  have MK := fun k (h : 2097160 ≤ k) => laws_markSystem.val (toS a) b (by omega) (by omega) k (by omega)
  have hp := values_len (toS a) b t
  generalize valuesS (toS a) b t = p at S I hp
  have EQ : ∀ k, 2097160 ≤ k → laws_eqInt64S.f k p.1 p.1 = some true := fun k (h : 2097160 ≤ k) => by
    rw [at_rounds (laws_eqInt64S.mono _ _) (by omega) (laws_eqInt64S.val p.1 p.1 (by omega))]; simp
  have MI := fun k (h : 2097160 ≤ k) => at_rounds (laws_markInt64S.mono _ _) (show p.1.length + 1 ≤ k by omega) (laws_markInt64S.val p.1 (by omega))
  have HI := fun k (h : 2097160 ≤ k) => at_rounds (laws_heldInt64S.mono _ _) (show p.1.length + 1 ≤ k by omega) (laws_heldInt64S.val p.1.length (by omega))
  have k0 : 2097160 ≤ k := by omega
  have k1 : 2097160 ≤ k + 1 := by omega
  have k2 : 2097160 ≤ k + 1 + 1 := by omega
  have k3 : 2097160 ≤ k + 1 + 1 + 1 := by omega
  have n2 : ¬ 1 + 2 * ((toS a).length : Int) + 2 * (b.length : Int) < 0 := by omega
  have n3 : ¬ ((p.1.length + 1 : Nat) : Int) < 0 := by omega
  have cc : (p.2 != p.2) = true ↔ False := by simp
  simp only [T _ k3, S, I, Option.bind_some, EQ _ k3, decide_true, if_true, laws_FnExactValuesOf.j0, cc, if_false, T _ k2, E _ k2, MK _ k2, if_neg n2, EQ _ k2, laws_FnExactValuesOf.j1, MI _ k1, HI _ k1, if_neg n3, T _ k1, EQ _ k1, laws_FnExactValuesOf.j2, HI _ k0]
theorem laws_FnExactValuesOf.holds (W : World) (G : Glob W) {a0 : List LSG × List MP} {cs0 : List Value} (t : ByteArray) (h0 : Open.kSys.K W a0 cs0) (g0 : (∀ z ∈ a0.1, (Lit.int .u8 z.f0).wf = true ∧ (Lit.int .i16 z.f1).wf = true) ∧ (∀ z ∈ a0.2, (Lit.int .u8 z.f0).wf = true ∧ (Lit.int .u8 z.f1).wf = true)) :
    Calls Tryz.prog 4 #[.agg cs0.toArray, .string t] W fun e w' => e = .returned (.bool true) ∧ Below W.heap.size W w' := by
  obtain ⟨A, c, B, d, rfl, p1, p2, p3, p4⟩ := Open.kSys_open h0
  exact laws_FnExactValuesOf.calls 2097180 A c a0.1 B d a0.2 t true W G p2 p1 p4 p3 (laws_FnExactValuesOf.pure _ _ _ (Kd.C_max p2) (Kd.C_max p4) g0.1 _ (Nat.le_refl _))
end Go.Proofs.YtdhhnkhgmoblhaaGreatDoor.Q
