/- The law IsRight holds; no condition. -/
import Derived.Test.YtcaidohboacokaaQpureParts
import Derived.Test.YtcaidohboacokaaQhandSpecIsRight
import Derived.Test.YtcaidohboacokaaQlawsFnExactIsRight
import Derived.Test.YtcaidohboacokaaQpureFit
import Derived.Test.YtcaidohboacokaaOpenSystem
namespace Go.Proofs.Ytcaidohboacokaa.Q
open Go.RowKit Go.Proofs.YtcaidohboacokaaW.PrintWords Go.Proofs.Ytcaidohboacokaa.Pure
set_option linter.unusedVariables false

/-- Whether parts go down. -/
def fallB (xs : List Int) : Bool := (List.range (xs.length - 1)).all (fun i => !decide (rd xs ((i + 1 : Nat) : Int) > rd xs (i : Nat)))
theorem spec_right.val (xs : List Int) (h : xs.length ≤ 1048576) (k : Nat) (hk : xs.length + 1 < k) : spec_l03Right.l0 k xs 1 = some (fallB xs) := by
  by_cases h0 : xs.length = 0
  · obtain ⟨k, rfl⟩ : ∃ j, k = j + 1 := ⟨k - 1, by omega⟩
    simp only [spec_l03Right.l0]
    rw [if_neg (by omega)]
    unfold fallB
    rw [h0]
    rfl
  have := scan_all (n := xs.length - 1) (l := fun k i => spec_l03Right.l0 k xs (i + 1)) (p := fun i => !decide (rd xs ((i + 1 : Nat) : Int) > rd xs (i : Nat))) (b := true) (fun k i hi => ?_) (fun k => ?_) k (by omega)
  · unfold fallB
    rw [Bool.and_true] at this
    exact this
  · have e1 : wrap64 (((i : Nat) : Int) + 1 - 1) = (i : Int) := by rw [wrap_id (by omega) (by omega)]; omega
    have e2 : wrap64 (((i : Nat) : Int) + 1 + 1) = ((i + 1 : Nat) : Int) + 1 := by rw [wrap_id (by omega) (by omega)]; omega
    have e3 : ((i : Nat) : Int) + 1 = ((i + 1 : Nat) : Int) := by omega
    simp only [spec_l03Right.l0, e1, e2]
    rw [e3, if_pos (by omega), if_pos (by omega), if_pos (by omega), if_pos (by omega)]
    by_cases hh : rd xs ((i + 1 : Nat) : Int) > rd xs (i : Nat)
    · rw [if_pos hh, decide_eq_true hh]; rfl
    · rw [if_neg hh, decide_eq_false hh]; rfl
  · simp only [spec_l03Right.l0]
    rw [if_neg (by omega)]
theorem impl_right.val (l : List PT) (h : l.length ≤ 1048576) (k : Nat) (hk : l.length + 1 < k) : impl_System_isRight.l0 k l 1 = some (fallB (l.map (·.f1))) := by
  by_cases h0 : l.length = 0
  · obtain ⟨k, rfl⟩ : ∃ j, k = j + 1 := ⟨k - 1, by omega⟩
    simp only [impl_System_isRight.l0]
    rw [if_neg (by omega)]
    unfold fallB
    rw [List.length_map, h0]
    rfl
  have := scan_all (n := l.length - 1) (l := fun k i => impl_System_isRight.l0 k l (i + 1)) (p := fun i => !decide (rd (l.map (·.f1)) ((i + 1 : Nat) : Int) > rd (l.map (·.f1)) (i : Nat))) (b := true) (fun k i hi => ?_) (fun k => ?_) k (by omega)
  · unfold fallB
    rw [List.length_map]
    rw [Bool.and_true] at this
    exact this
  · have g1 : (rd_T83 l (i : Nat)).f1 = rd (l.map (·.f1)) (i : Nat) := by rw [rdPT_get l i (by omega), rd_get _ i (by rw [List.length_map]; omega), List.getElem_map]
    have g2 : (rd_T83 l ((i + 1 : Nat) : Int)).f1 = rd (l.map (·.f1)) ((i + 1 : Nat) : Int) := by rw [rdPT_get l (i + 1) (by omega), rd_get _ (i + 1) (by rw [List.length_map]; omega), List.getElem_map]
    have e1 : wrap64 (((i : Nat) : Int) + 1 - 1) = (i : Int) := by rw [wrap_id (by omega) (by omega)]; omega
    have e2 : wrap64 (((i : Nat) : Int) + 1 + 1) = ((i + 1 : Nat) : Int) + 1 := by rw [wrap_id (by omega) (by omega)]; omega
    have e3 : ((i : Nat) : Int) + 1 = ((i + 1 : Nat) : Int) := by omega
    simp only [impl_System_isRight.l0, e1, e2]
    rw [e3, if_pos (by omega), if_pos (by omega), if_pos (by omega), if_pos (by omega), g1, g2]
    by_cases hh : rd (l.map (·.f1)) ((i + 1 : Nat) : Int) > rd (l.map (·.f1)) (i : Nat)
    · rw [if_pos hh, decide_eq_true hh]; rfl
    · rw [if_neg hh, decide_eq_false hh]; rfl
  · simp only [impl_System_isRight.l0]
    rw [if_neg (by omega)]

theorem spec_IsRight.val (s : List SG) (m : List MP) (t : ByteArray) (hs : s.length ≤ 1048576) (hm : m.length ≤ 1048576) (hf : fitB s) (ht : t.size ≤ 1048576) : spec_IsRight.f s m t = some (if codeB s m t = 0 then (fallB ((partsT s m t).map (·.f1)), 0) else (false, codeB s m t)) := by
  unfold spec_IsRight.f
  rw [spec_l03Asked.val s m t hs hm hf ht _ (by omega), Option.bind_some]
  by_cases h : codeB s m t = 0
  · have h16 := codeB_ok h
    have hl := partsT_len s m t
    rw [if_pos h, if_pos h]
    unfold spec_l03Right.f
    rw [spec_l03Parts.val 1048577 s m t hs hm (by omega) (by omega) hf h16 _ (by omega), Option.bind_some, spec_right.val _ (by rw [List.length_map]; omega) _ (by rw [List.length_map]; omega), Option.bind_some]
  · rw [if_neg h, if_neg h]
theorem impl_IsRight.val (s : List SG) (m : List MP) (t : ByteArray) (hs : s.length ≤ 1048576) (hm : m.length ≤ 1048576) (hf : fitB s) (ht : t.size ≤ 1048576) (k : Nat) (hk : 2097160 ≤ k) : impl_IsRight.f k s m t = some (if codeB s m t = 0 then (fallB ((partsT s m t).map (·.f1)), 0) else (false, codeB s m t)) := by
  unfold impl_IsRight.f
  rw [impl_numberCode.val s m t hs hm hf ht k (by omega), Option.bind_some]
  by_cases h : codeB s m t = 0
  · have h16 := codeB_ok h
    have hl := partsT_len s m t
    rw [if_pos h, if_pos h]
    unfold impl_System_isRight.f
    rw [impl_System_split.val 1048577 s m t hs hm (by omega) (by omega) hf h16 _ (by omega), Option.bind_some, impl_right.val _ (by omega) _ (by omega), Option.bind_some]
  · rw [if_neg h, if_neg h]

theorem laws_FnExactIsRight.pure (a : List LSG) (b : List MP) (t : ByteArray) (ha : a.length ≤ 9223372036854775807) (hb : b.length ≤ 9223372036854775807) (hw : ∀ z ∈ a, (Lit.int .u8 z.f0).wf = true ∧ (Lit.int .i16 z.f1).wf = true) (k : Nat) (hk : 2097170 ≤ k) : laws_FnExactIsRight.f k a b t = some true := by
  obtain ⟨k, rfl⟩ : ∃ j, k = j + 1 := ⟨k - 1, by omega⟩
  unfold laws_FnExactIsRight.f
  by_cases h0 : (t.size : Int) > 1048576
  · rw [if_pos h0]
  rw [if_neg h0]
  obtain ⟨r1, e1, h1⟩ := laws_szSystem.val a b ha hb 1048576 (by omega) (by omega)
  rw [e1, Option.bind_some]
  by_cases n1 : r1 < 0
  · rw [if_pos n1]
  rw [if_neg n1]
  have la := toS_len a
  have hf := toS_fit a hw
  have T1 := laws_toSystem.val a b (by omega) (by omega) (k + 1) (by omega) (by omega)
  have T0 := laws_toSystem.val a b (by omega) (by omega) k (by omega) (by omega)
  simp only [T1, Option.bind_some, laws_FnExactIsRight.j0, T0, spec_IsRight.val (toS a) b t (by omega) (by omega) hf (by omega), impl_IsRight.val (toS a) b t (by omega) (by omega) hf (by omega) (k + 1) (by omega)]
  rw [if_neg (by simp), if_neg (by simp), laws_eqSystem.refl (toS a) b (by omega) (by omega) k (by omega) (by omega), Option.bind_some, if_pos rfl]
theorem laws_FnExactIsRight.holds (W : World) {a0 : List LSG × List MP} {cs0 : List Value} (t : ByteArray) (h0 : Open.kSys.K W a0 cs0) (g0 : (∀ z ∈ a0.1, (Lit.int .u8 z.f0).wf = true ∧ (Lit.int .i16 z.f1).wf = true) ∧ (∀ z ∈ a0.2, (Lit.int .u8 z.f0).wf = true ∧ (Lit.int .u8 z.f1).wf = true)) :
    Calls Try.prog 9 #[.agg cs0.toArray, .string t] W fun e w' => e = .returned (.bool true) ∧ Below W.heap.size W w' := by
  obtain ⟨A, c, B, d, rfl, p1, p2, p3, p4⟩ := Open.kSys_open h0
  exact laws_FnExactIsRight.calls 2097170 A c a0.1 B d a0.2 t true W p2 p1 p4 p3 (laws_FnExactIsRight.pure _ _ _ (Kd.C_max p2) (Kd.C_max p4) g0.1 _ (Nat.le_refl _))
end Go.Proofs.Ytcaidohboacokaa.Q
