/- The law PartsOf holds; no condition. -/
import Derived.Test.YtcaidohboacokaaQpureParts
import Derived.Test.YtcaidohboacokaaQhandSpecPartsOf
import Derived.Test.YtcaidohboacokaaQlawsFnExactPartsOf
import Derived.Test.YtcaidohboacokaaQpureFit
import Derived.Test.YtcaidohboacokaaQpureLawI
import Derived.Test.YtcaidohboacokaaQpureSystemM
import Derived.Test.YtcaidohboacokaaOpenSystem
namespace Go.Proofs.Ytcaidohboacokaa.Q
open Go.RowKit Go.Proofs.YtcaidohboacokaaW.PrintWords Go.Proofs.Ytcaidohboacokaa.Pure
set_option linter.unusedVariables false

def partsOf (s : List SG) (m : List MP) (t : ByteArray) : List Int × Int := if codeB s m t = 0 then ((partsT s m t).map (·.f1), 0) else ([], codeB s m t)
theorem partsOf_len (s : List SG) (m : List MP) (t : ByteArray) : (partsOf s m t).1.length ≤ 16 := by
  unfold partsOf
  split
  · rename_i h
    have h16 := codeB_ok h
    have hl := partsT_len s m t
    show ((partsT s m t).map (·.f1)).length ≤ 16
    rw [List.length_map]
    omega
  · exact Nat.zero_le _
theorem spec_PartsOf.val (s : List SG) (m : List MP) (t : ByteArray) (hs : s.length ≤ 1048576) (hm : m.length ≤ 1048576) (hf : fitB s) (ht : t.size ≤ 1048576) : spec_PartsOf.f s m t = some (partsOf s m t) := by
  unfold spec_PartsOf.f partsOf
  rw [spec_l03Asked.val s m t hs hm hf ht _ (by omega), Option.bind_some]
  by_cases h : codeB s m t = 0
  · have h16 := codeB_ok h
    rw [if_pos h, if_pos h, spec_l03Parts.val 1048577 s m t hs hm (by omega) (by omega) hf h16 _ (by omega), Option.bind_some]
  · rw [if_neg h, if_neg h]
theorem impl_PartsOf.val (s : List SG) (m : List MP) (t : ByteArray) (hs : s.length ≤ 1048576) (hm : m.length ≤ 1048576) (hf : fitB s) (ht : t.size ≤ 1048576) (k : Nat) (hk : 2097160 ≤ k) : impl_PartsOf.f k s m t = some (partsOf s m t) := by
  unfold impl_PartsOf.f partsOf
  rw [impl_numberCode.val s m t hs hm hf ht k (by omega), Option.bind_some]
  by_cases h : codeB s m t = 0
  · have h16 := codeB_ok h
    have hl := partsT_len s m t
    rw [if_pos h, if_pos h, impl_System_split.val 1048577 s m t hs hm (by omega) (by omega) hf h16 _ (by omega), Option.bind_some]
    generalize partsT s m t = l at hl
    have hlm : (l.map (·.f1)).length = l.length := List.length_map ..
    have := scan_inv (n := l.length) (M := 0) (l := fun k i x => impl_PartsOf.l0 k x l (l.length : Int) i) (at_ := fun i => (l.map (·.f1)).take i) (r := (l.map (·.f1), 0)) (fun k i hi _ => ?_) (fun k _ => ?_) k (by omega)
    · exact this
    · simp only [impl_PartsOf.l0]
      rw [if_pos (by omega), if_pos (by omega), if_pos (by omega), if_pos (by rw [List.length_take]; omega), wrap_succ hi (by omega), rdPT_get l i hi]
      congr 1
      rw [List.take_succ_eq_append_getElem (by omega), List.getElem_map]
    · simp only [impl_PartsOf.l0]
      rw [if_neg (by omega), List.take_of_length_le (by omega)]
  · rw [if_neg h, if_neg h]

theorem laws_FnExactPartsOf.pure (a : List LSG) (b : List MP) (t : ByteArray) (ha : a.length ≤ 9223372036854775807) (hb : b.length ≤ 9223372036854775807) (hw : ∀ z ∈ a, (Lit.int .u8 z.f0).wf = true ∧ (Lit.int .i16 z.f1).wf = true) (k : Nat) (hk : 2097180 ≤ k) : laws_FnExactPartsOf.f k a b t = some true := by
  obtain ⟨k, rfl⟩ : ∃ j, k = j + 1 := ⟨k - 1, by omega⟩
  obtain ⟨k, rfl⟩ : ∃ j, k = j + 1 := ⟨k - 1, by omega⟩
  obtain ⟨k, rfl⟩ : ∃ j, k = j + 1 := ⟨k - 1, by omega⟩
  unfold laws_FnExactPartsOf.f
  by_cases h0 : (t.size : Int) > 1048576
  · rw [if_pos h0]
  rw [if_neg h0]
  obtain ⟨r1, e1, h1⟩ := laws_szSystem.val a b ha hb 1048576 (by omega) (by omega)
  rw [e1, Option.bind_some]
  by_cases n1 : r1 < 0
  · rw [if_pos n1]
  rw [if_neg n1]
  have la := toS_len a
  have hf := toS_fit a hw
  have hla : a.length ≤ 1048576 := by omega
  have hlb : b.length ≤ 1048576 := by omega
  have hls : (toS a).length ≤ 1048576 := by omega
  have T := fun k (h : 2097160 ≤ k) => laws_toSystem.val a b hla hlb k (by omega) (by omega)
  have S := spec_PartsOf.val (toS a) b t hls hlb hf (by omega)
  have I := fun k (h : 2097160 ≤ k) => impl_PartsOf.val (toS a) b t hls hlb hf (by omega) k h
  have E := fun k (h : 2097160 ≤ k) => laws_eqSystem.refl (toS a) b (by omega) (by omega) k (by omega) (by omega)
  have MK := fun k (h : 2097160 ≤ k) => laws_markSystem.val (toS a) b (by omega) (by omega) k (by omega)
  have hp := partsOf_len (toS a) b t
  generalize partsOf (toS a) b t = p at S I hp
  have EQ := fun k (h : 2097160 ≤ k) => laws_eqInt64S.val p.1 p.1 (by omega) k (by omega)
  have MI := fun k (h : 2097160 ≤ k) => laws_markInt64S.val p.1 (by omega) k (by omega)
  have HI := fun k (h : 2097160 ≤ k) => laws_heldInt64S.val p.1.length (by omega) k (by omega)
  have k0 : 2097160 ≤ k := by omega
  have k1 : 2097160 ≤ k + 1 := by omega
  have k2 : 2097160 ≤ k + 1 + 1 := by omega
  have k3 : 2097160 ≤ k + 1 + 1 + 1 := by omega
  have n2 : ¬ 1 + 2 * ((toS a).length : Int) + 2 * (b.length : Int) < 0 := by omega
  have n3 : ¬ ((p.1.length + 1 : Nat) : Int) < 0 := by omega
  have cc : (p.2 != p.2) = true ↔ False := by simp
  simp only [T _ k3, S, I _ k3, Option.bind_some, EQ _ k3, decide_true, if_true, laws_FnExactPartsOf.j0, cc, if_false, T _ k2, E _ k2, MK _ k2, if_neg n2, EQ _ k2, laws_FnExactPartsOf.j1, MI _ k1, HI _ k1, if_neg n3, T _ k1, I _ k1, EQ _ k1, laws_FnExactPartsOf.j2, HI _ k0]
theorem laws_FnExactPartsOf.holds (W : World) {a0 : List LSG × List MP} {cs0 : List Value} (t : ByteArray) (h0 : Open.kSys.K W a0 cs0) (g0 : (∀ z ∈ a0.1, (Lit.int .u8 z.f0).wf = true ∧ (Lit.int .i16 z.f1).wf = true) ∧ (∀ z ∈ a0.2, (Lit.int .u8 z.f0).wf = true ∧ (Lit.int .u8 z.f1).wf = true)) :
    Calls Try.prog 11 #[.agg cs0.toArray, .string t] W fun e w' => e = .returned (.bool true) ∧ Below W.heap.size W w' := by
  obtain ⟨A, c, B, d, rfl, p1, p2, p3, p4⟩ := Open.kSys_open h0
  exact laws_FnExactPartsOf.calls 2097180 A c a0.1 B d a0.2 t true W p2 p1 p4 p3 (laws_FnExactPartsOf.pure _ _ _ (Kd.C_max p2) (Kd.C_max p4) g0.1 _ (Nat.le_refl _))
end Go.Proofs.Ytcaidohboacokaa.Q
