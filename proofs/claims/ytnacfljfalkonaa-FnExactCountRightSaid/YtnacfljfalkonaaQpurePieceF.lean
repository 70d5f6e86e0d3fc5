/- The law on GreedyFor: program and reference take the same parts, one after the other. -/
import Derived.Test.YtnacfljfalkonaaQhandSpecGreedy
import Derived.Test.YtnacfljfalkonaaQpureFit
import Derived.Test.YtnacfljfalkonaaOpenSystem
namespace Go.Proofs.Ytnacfljfalkonaa.Q
open Go.RowKit Go.Proofs.YtnacfljfalkonaaW.PrintWords Go.Proofs.YtnacfljfalkonaaW.PrintLast Go.Proofs.YtnacfljfalkonaaW.PrintMore
open Go.Proofs.Ytnacfljfalkonaa.Pure
set_option linter.unusedVariables false

theorem rdQ_get (xs : List S46) (k : Nat) (h : k < xs.length) : rd_T46 xs (k : Int) = xs[k] := by
  unfold rd_T46
  simp [List.getD_eq_getElem?_getD, h]
theorem rdP_get (xs : List S52) (k : Nat) (h : k < xs.length) : rd_T52 xs (k : Int) = xs[k] := by
  unfold rd_T52
  simp [List.getD_eq_getElem?_getD, h]
def cvP (x : S46) : S52 := ⟨x.f0, x.f1⟩
theorem pieces_cv (s : List SG) (m : List MP) : piecesP s m = (piecesQ s m).map cvP := by
  unfold piecesP piecesQ
  rw [List.map_append, List.map_map, List.map_map]
  rfl
def fineL (L : List S46) : Prop := (∀ p : Nat, p < L.length → 1 ≤ (rd_T46 L (p : Int)).f1 ∧ (rd_T46 L (p : Int)).f0.size ≤ 2) ∧ ∃ p : Nat, p < L.length ∧ (rd_T46 L (p : Int)).f1 = 1
theorem nums_size (xs : List Int) : (strOfNums xs).size = xs.length := by simp [strOfNums, ByteArray.size]
theorem fine_pieces {s : List SG} {m : List MP} (h : okB s m = true) : fineL (piecesQ s m) := by
  unfold okB headB at h
  simp only [Bool.and_eq_true, decide_eq_true_eq, List.all_eq_true, List.mem_range] at h
  obtain ⟨⟨⟨⟨⟨h1, h2⟩, h3⟩, h4⟩, hs⟩, hm⟩ := h
  refine ⟨fun p hp => ?_, s.length - 1, ?_, ?_⟩
  · rw [rdQ_get _ _ hp]
    unfold piecesQ at hp ⊢
    rw [List.length_append, List.length_map, List.length_map] at hp
    by_cases hc : p < s.length
    · rw [List.getElem_append_left (by rw [List.length_map]; exact hc), List.getElem_map]
      have := hs p hc
      unfold sgB rngB at this
      simp only [Bool.and_eq_true, decide_eq_true_eq] at this
      rw [rdSG_get _ _ hc] at this
      refine ⟨this.1.1.2.1, ?_⟩
      show (strOfNums _).size ≤ 2
      rw [nums_size]
      simp
    · rw [List.getElem_append_right (by rw [List.length_map]; omega), List.getElem_map]
      have hq : p - (s.map sgQ).length < m.length := by rw [List.length_map]; omega
      have := hm _ hq
      unfold mpB at this
      simp only [Bool.and_eq_true, decide_eq_true_eq] at this
      rw [rdA2_get _ _ hq] at this
      refine ⟨?_, ?_⟩
      · show 1 ≤ valB s _ - valB s _
        have := this.1.2
        omega
      · show (strOfNums _).size ≤ 2
        rw [nums_size]
        simp
  · unfold piecesQ
    rw [List.length_append, List.length_map]
    omega
  · rw [rdQ_get _ _ (by unfold piecesQ; rw [List.length_append, List.length_map]; omega)]
    unfold piecesQ
    rw [List.getElem_append_left (by rw [List.length_map]; omega), List.getElem_map]
    rw [rdSG_get _ _ (by omega)] at h4
    exact h4
theorem pieces_short {s : List SG} {m : List MP} (h : okB s m = true) : (piecesQ s m).length ≤ 16 := by
  unfold okB headB at h
  simp only [Bool.and_eq_true, decide_eq_true_eq] at h
  unfold piecesQ
  rw [List.length_append, List.length_map, List.length_map]
  omega
end Go.Proofs.Ytnacfljfalkonaa.Q
