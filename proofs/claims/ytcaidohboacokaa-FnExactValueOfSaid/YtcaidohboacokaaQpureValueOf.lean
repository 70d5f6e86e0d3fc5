/- The law ValueOf holds; no condition. -/
import Derived.Test.YtcaidohboacokaaQpureParts
import Derived.Test.YtcaidohboacokaaQhandSpecValueOf
import Derived.Test.YtcaidohboacokaaQlawsFnExactValueOf
import Derived.Test.YtcaidohboacokaaQpureFit
import Derived.Test.YtcaidohboacokaaOpenSystem
namespace Go.Proofs.Ytcaidohboacokaa.Q
open Go.RowKit Go.Proofs.YtcaidohboacokaaW.PrintWords Go.Proofs.Ytcaidohboacokaa.Pure
set_option linter.unusedVariables false

theorem foldl_range_congr {α : Type} (n : Nat) (f g : α → Nat → α) (h : ∀ x i, i < n → f x i = g x i) (x : α) : (List.range n).foldl f x = (List.range n).foldl g x := by
  induction n with
  | zero => rfl
  | succ n ih =>
    rw [List.range_succ, List.foldl_append, List.foldl_append, ih (fun x i hi => h x i (by omega))]
    exact h _ n (by omega)
def sumW (xs : List Int) : Int := (List.range xs.length).foldl (fun y i => wrap64 (y + rd xs (i : Nat))) 0
theorem spec_sum.val (xs : List Int) (h : xs.length ≤ 1048576) (k : Nat) (hk : xs.length < k) : spec_l03Sum.l0 k xs 0 0 = some (sumW xs) := by
  have := scan_fold (n := xs.length) (l := fun k i x => spec_l03Sum.l0 k xs x i) (f := fun i y => wrap64 (y + rd xs (i : Nat))) (g := fun x => x) (fun k i x hi => ?_) (fun k x => ?_) k hk (0 : Int)
  · exact this
  · simp only [spec_l03Sum.l0]
    rw [if_pos (by omega), if_pos (by omega), wrap_succ hi (by omega)]
  · simp only [spec_l03Sum.l0]
    rw [if_neg (by omega)]
theorem impl_sum.val (l : List PT) (h : l.length ≤ 1048576) (k : Nat) (hk : l.length < k) : impl_sum.f k l = some (sumW (l.map (·.f1))) := by
  unfold impl_sum.f
  have := scan_fold (n := l.length) (l := fun k i x => impl_sum.l0 k x l (l.length : Int) i) (f := fun i y => wrap64 (y + (rd_T83 l (i : Nat)).f1)) (g := fun x => x) (fun k i x hi => ?_) (fun k x => ?_) k hk (0 : Int)
  · rw [this]
    unfold sumW
    rw [List.length_map]
    congr 1
    refine foldl_range_congr l.length _ _ (fun x i hi => ?_) 0
    rw [rdPT_get l i hi, rd_get _ i (by rw [List.length_map]; exact hi), List.getElem_map]
  · simp only [impl_sum.l0]
    rw [if_pos (by omega), if_pos (by omega), if_pos (by omega), wrap_succ hi (by omega)]
  · simp only [impl_sum.l0]
    rw [if_neg (by omega)]
theorem spec_ValueOf.val (s : List SG) (m : List MP) (t : ByteArray) (hs : s.length ≤ 1048576) (hm : m.length ≤ 1048576) (hf : fitB s) (ht : t.size ≤ 1048576) : spec_ValueOf.f s m t = some (if codeB s m t = 0 then (sumW ((partsT s m t).map (·.f1)), 0) else (0, codeB s m t)) := by
  unfold spec_ValueOf.f
  rw [spec_l03Asked.val s m t hs hm hf ht _ (by omega), Option.bind_some]
  by_cases h : codeB s m t = 0
  · have h16 := codeB_ok h
    have hl := partsT_len s m t
    rw [if_pos h, if_pos h]
    unfold spec_l03Sum.f
    rw [spec_l03Parts.val 1048577 s m t hs hm (by omega) (by omega) hf h16 _ (by omega), Option.bind_some, spec_sum.val _ (by rw [List.length_map]; omega) _ (by rw [List.length_map]; omega), Option.bind_some]
  · rw [if_neg h, if_neg h]
theorem impl_ValueOf.val (s : List SG) (m : List MP) (t : ByteArray) (hs : s.length ≤ 1048576) (hm : m.length ≤ 1048576) (hf : fitB s) (ht : t.size ≤ 1048576) (k : Nat) (hk : 2097160 ≤ k) : impl_ValueOf.f k s m t = some (if codeB s m t = 0 then (sumW ((partsT s m t).map (·.f1)), 0) else (0, codeB s m t)) := by
  unfold impl_ValueOf.f
  rw [impl_numberCode.val s m t hs hm hf ht k (by omega), Option.bind_some]
  by_cases h : codeB s m t = 0
  · have h16 := codeB_ok h
    have hl := partsT_len s m t
    rw [if_pos h, if_pos h, impl_System_split.val 1048577 s m t hs hm (by omega) (by omega) hf h16 _ (by omega), Option.bind_some, impl_sum.val _ (by omega) _ (by omega), Option.bind_some]
  · rw [if_neg h, if_neg h]
theorem laws_FnExactValueOf.pure (a : List LSG) (b : List MP) (t : ByteArray) (ha : a.length ≤ 9223372036854775807) (hb : b.length ≤ 9223372036854775807) (hw : ∀ z ∈ a, (Lit.int .u8 z.f0).wf = true ∧ (Lit.int .i16 z.f1).wf = true) (k : Nat) (hk : 2097170 ≤ k) : laws_FnExactValueOf.f k a b t = some true := by
  obtain ⟨k, rfl⟩ : ∃ j, k = j + 1 := ⟨k - 1, by omega⟩
  unfold laws_FnExactValueOf.f
  by_cases h0 : (t.size : Int) > 1048576
  · rw [if_pos h0]
  rw [if_neg h0]
  obtain ⟨r1, e1, h1⟩ := laws_szSystem.val a b ha hb 1048576 (by omega) (by omega)
  rw [e1, Option.bind_some]
  by_cases n1 : r1 < 0
  · rw [if_pos n1]
  rw [if_neg n1]
  have la := toS_len a
  have hf := toS_fit a hw
  have T1 := laws_toSystem.val a b (by omega) (by omega) (k + 1) (by omega) (by omega)
  have T0 := laws_toSystem.val a b (by omega) (by omega) k (by omega) (by omega)
  simp only [T1, Option.bind_some, laws_FnExactValueOf.j0, T0, spec_ValueOf.val (toS a) b t (by omega) (by omega) hf (by omega), impl_ValueOf.val (toS a) b t (by omega) (by omega) hf (by omega) (k + 1) (by omega)]
  rw [if_pos trivial, if_neg (by simp), laws_eqSystem.refl (toS a) b (by omega) (by omega) k (by omega) (by omega), Option.bind_some, if_pos rfl]
theorem laws_FnExactValueOf.holds (W : World) {a0 : List LSG × List MP} {cs0 : List Value} (t : ByteArray) (h0 : Open.kSys.K W a0 cs0) (g0 : (∀ z ∈ a0.1, (Lit.int .u8 z.f0).wf = true ∧ (Lit.int .i16 z.f1).wf = true) ∧ (∀ z ∈ a0.2, (Lit.int .u8 z.f0).wf = true ∧ (Lit.int .u8 z.f1).wf = true)) :
    Calls Try.prog 8 #[.agg cs0.toArray, .string t] W fun e w' => e = .returned (.bool true) ∧ Below W.heap.size W w' := by
  obtain ⟨A, c, B, d, rfl, p1, p2, p3, p4⟩ := Open.kSys_open h0
  exact laws_FnExactValueOf.calls 2097170 A c a0.1 B d a0.2 t true W p2 p1 p4 p3 (laws_FnExactValueOf.pure _ _ _ (Kd.C_max p2) (Kd.C_max p4) g0.1 _ (Nat.le_refl _))
end Go.Proofs.Ytcaidohboacokaa.Q
