/- The law on Readings holds: program and reference list the same readings. -/
import Derived.Test.YtdhhnkhgmoblhaaGreatDoorQhandBetweenC
import Derived.Test.YtdhhnkhgmoblhaaGreatDoorQlawsFnExactReadingsBetween
import Derived.Test.YtdhhnkhgmoblhaaGreatDoorQPureM
import Derived.Test.YtdhhnkhgmoblhaaGreatDoorOpenSystem
namespace Go.Proofs.YtdhhnkhgmoblhaaGreatDoor.Q
open Go.RowKit Go.Proofs.YtdhhnkhgmoblhaaGreatDoorW.PrintWords Go.Proofs.YtdhhnkhgmoblhaaGreatDoorW.PrintLast Go.Proofs.YtdhhnkhgmoblhaaGreatDoorW.PrintMore
open Go.Proofs.YtdhhnkhgmoblhaaGreatDoor.Pure
set_option linter.unusedVariables false
set_option linter.unusedSimpArgs false

theorem between_len (s : List SG) (m : List MP) (t : ByteArray) (lo hi : Int) : (betweenS s m t lo hi).1.length ≤ 501 := by
  have h := readS_len' s m t
  unfold betweenS
  split
  · have := List.length_filter_le (fun x => inB lo hi (sumB s m x)) (readS s m t).1
    dsimp only
    omega
  · exact Nat.zero_le _
theorem laws_FnExactReadingsBetween.pure (a : List LSG) (b : List MP) (t : ByteArray) (lo hi : Int) (ha : a.length ≤ 9223372036854775807) (hb : b.length ≤ 9223372036854775807) (hw : ∀ z ∈ a, (Lit.int .u8 z.f0).wf = true ∧ (Lit.int .i16 z.f1).wf = true) (k : Nat) (hk : 2097180 ≤ k) : laws_FnExactReadingsBetween.f k a b t lo hi = some true := by
  obtain ⟨k, rfl⟩ : ∃ j, k = j + 1 := ⟨k - 1, by omega⟩
  obtain ⟨k, rfl⟩ : ∃ j, k = j + 1 := ⟨k - 1, by omega⟩
  obtain ⟨k, rfl⟩ : ∃ j, k = j + 1 := ⟨k - 1, by omega⟩
  unfold laws_FnExactReadingsBetween.f
  by_cases h0 : (t.size : Int) > 1048576
  · rw [if_pos h0]
  rw [if_neg h0]
  obtain ⟨r1, e1, h1⟩ := laws_szSystem.val a b ha hb 1048576 (by omega) (by omega)
  rw [e1, Option.bind_some]
  by_cases n1 : r1 < 0
  · rw [if_pos n1]
  rw [if_neg n1]
  have la := toS_len a
  have hf := toS_fit a hw
  have hla : a.length ≤ 1048576 := by omega
  have hlb : b.length ≤ 1048576 := by omega
  have hls : (toS a).length ≤ 1048576 := by omega
  have T := fun k (h : 2097160 ≤ k) => laws_toSystem.val a b hla hlb k (by omega) (by omega)
  have S : spec_ReadingsBetween.f (toS a) b t lo hi = some (betweenS (toS a) b t lo hi) := if_pos ⟨hls, hlb, hf, by omega⟩
  have I : impl_ReadingsBetween.f (toS a) b t lo hi = some (betweenS (toS a) b t lo hi) := S
  have E := fun k (h : 2097160 ≤ k) => laws_eqSystem.refl (toS a) b (by omega) (by omega) k (by omega) (by omega)
  have MK := fun k (h : 2097160 ≤ k) => laws_markSystem.val (toS a) b (by omega) (by omega) k (by omega)
  have hp := between_len (toS a) b t lo hi
  generalize betweenS (toS a) b t lo hi = p at S I hp
  have EQ : ∀ k, 2097160 ≤ k → laws_eqStringS.f k p.1 p.1 = some true := fun k (h : 2097160 ≤ k) => by
    rw [at_rounds (laws_eqStringS.mono _ _) (by omega) (laws_eqStringS.val p.1 p.1 (by omega))]; simp
  have MI := fun k (h : 2097160 ≤ k) => laws_markStringS.val p.1 (by omega) k (by omega)
  have HI := fun k (h : 2097160 ≤ k) => laws_heldStringS.val p.1.length (by omega) k (by omega)
  have k0 : 2097160 ≤ k := by omega
  have k1 : 2097160 ≤ k + 1 := by omega
  have k2 : 2097160 ≤ k + 1 + 1 := by omega
  have k3 : 2097160 ≤ k + 1 + 1 + 1 := by omega
  have n2 : ¬ 1 + 2 * ((toS a).length : Int) + 2 * (b.length : Int) < 0 := by omega
  have n3 : ¬ ((p.1.length + 1 : Nat) : Int) < 0 := by omega
  have cc : (p.2 != p.2) = true ↔ False := by simp
  simp only [T _ k3, S, I, Option.bind_some, EQ _ k3, decide_true, if_true, laws_FnExactReadingsBetween.j0, cc, if_false, T _ k2, E _ k2, MK _ k2, if_neg n2, EQ _ k2, laws_FnExactReadingsBetween.j1, MI _ k1, HI _ k1, if_neg n3, T _ k1, EQ _ k1, laws_FnExactReadingsBetween.j2, HI _ k0]
theorem laws_FnExactReadingsBetween.holds (W : World) (G : Glob W) {a0 : List LSG × List MP} {cs0 : List Value} (t : ByteArray) (lo hi : Int) (h0 : Open.kSys.K W a0 cs0) (g0 : (∀ z ∈ a0.1, (Lit.int .u8 z.f0).wf = true ∧ (Lit.int .i16 z.f1).wf = true) ∧ (∀ z ∈ a0.2, (Lit.int .u8 z.f0).wf = true ∧ (Lit.int .u8 z.f1).wf = true)) :
    Calls Tryz.prog 3 #[.agg cs0.toArray, .string t, .int .i64 lo, .int .i64 hi] W fun e w' => e = .returned (.bool true) ∧ Below W.heap.size W w' := by
  obtain ⟨A, c, B, d, rfl, p1, p2, p3, p4⟩ := Open.kSys_open h0
  exact laws_FnExactReadingsBetween.calls 2097180 A c a0.1 B d a0.2 t lo hi true W G p2 p1 p4 p3 (laws_FnExactReadingsBetween.pure _ _ _ _ _ (Kd.C_max p2) (Kd.C_max p4) g0.1 _ (Nat.le_refl _))
end Go.Proofs.YtdhhnkhgmoblhaaGreatDoor.Q
