/- The value of a number: program and reference agree; no condition. -/
import Derived.Test.YtdhhnkhgmoblhaaGreatDoorQRead
import Derived.Test.YtdhhnkhgmoblhaaGreatDoorQspecl03Sum
import Derived.Test.YtdhhnkhgmoblhaaGreatDoorQimplsum
namespace Go.Proofs.YtdhhnkhgmoblhaaGreatDoor.Q
open Go.RowKit Go.Proofs.YtdhhnkhgmoblhaaGreatDoorW.PrintWords Go.Proofs.YtdhhnkhgmoblhaaGreatDoor.Pure
set_option linter.unusedVariables false

theorem foldl_range_congr {α : Type} (n : Nat) (f g : α → Nat → α) (h : ∀ x i, i < n → f x i = g x i) (x : α) : (List.range n).foldl f x = (List.range n).foldl g x := by
  induction n with
  | zero => rfl
  | succ n ih =>
    rw [List.range_succ, List.foldl_append, List.foldl_append, ih (fun x i hi => h x i (by omega))]
    exact h _ n (by omega)
def sumW (xs : List Int) : Int := (List.range xs.length).foldl (fun y i => wrap64 (y + rd xs (i : Nat))) 0
theorem spec_sum.val (xs : List Int) (h : xs.length ≤ 1048576) (k : Nat) (hk : xs.length < k) : spec_l03Sum.l0 k xs 0 0 = some (sumW xs) := by
  have := scan_fold (n := xs.length) (l := fun k i x => spec_l03Sum.l0 k xs x i) (f := fun i y => wrap64 (y + rd xs (i : Nat))) (g := fun x => x) (fun k i x hi => ?_) (fun k x => ?_) k hk (0 : Int)
  · exact this
  · simp only [spec_l03Sum.l0]
    rw [if_pos (by omega), if_pos (by omega), wrap_succ hi (by omega)]
  · simp only [spec_l03Sum.l0]
    rw [if_neg (by omega)]
theorem impl_sum.val (l : List PT) (h : l.length ≤ 1048576) (k : Nat) (hk : l.length < k) : impl_sum.f k l = some (sumW (l.map (·.f1))) := by
  unfold impl_sum.f
  have := scan_fold (n := l.length) (l := fun k i x => impl_sum.l0 k x l (l.length : Int) i) (f := fun i y => wrap64 (y + (rd_T88 l (i : Nat)).f1)) (g := fun x => x) (fun k i x hi => ?_) (fun k x => ?_) k hk (0 : Int)
  · rw [this]
    unfold sumW
    rw [List.length_map]
    congr 1
    refine foldl_range_congr l.length _ _ (fun x i hi => ?_) 0
    rw [rdPT_get l i hi, rd_get _ i (by rw [List.length_map]; exact hi), List.getElem_map]
  · simp only [impl_sum.l0]
    rw [if_pos (by omega), if_pos (by omega), if_pos (by omega), wrap_succ hi (by omega)]
  · simp only [impl_sum.l0]
    rw [if_neg (by omega)]
def sumB (s : List SG) (m : List MP) (t : ByteArray) : Int := sumW ((partsT s m t).map (·.f1))
theorem spec_l03Sum.val (s : List SG) (m : List MP) (t : ByteArray) (hs : s.length ≤ 1048576) (hm : m.length ≤ 1048576) (hf : fitB s) (h16 : t.size ≤ 16) (k : Nat) (hk : 2097160 ≤ k) : spec_l03Sum.f k s m t = some (sumB s m t) := by
  have hl := partsT_len s m t
  unfold spec_l03Sum.f sumB
  rw [spec_l03Parts.val 1048577 s m t hs hm (by omega) (by omega) hf h16 _ (by omega), Option.bind_some, spec_sum.val _ (by rw [List.length_map]; omega) _ (by rw [List.length_map]; omega)]
theorem impl_sum_split (s : List SG) (m : List MP) (t : ByteArray) (h16 : t.size ≤ 16) (k : Nat) (hk : 2097160 ≤ k) : impl_sum.f k (partsT s m t) = some (sumB s m t) := by
  have hl := partsT_len s m t
  unfold sumB
  exact impl_sum.val _ (by omega) _ (by omega)
end Go.Proofs.YtdhhnkhgmoblhaaGreatDoor.Q
