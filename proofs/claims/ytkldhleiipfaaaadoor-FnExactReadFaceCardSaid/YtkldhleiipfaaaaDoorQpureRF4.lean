/- strings.Split at one byte; the numbers of a text, as the program reads them. -/
import Derived.Test.YtkldhleiipfaaaaDoorQpureRF3
import Derived.Test.YtkldhleiipfaaaaDoorQLibSF
import Derived.Test.YtkldhleiipfaaaaDoorQNum
import Derived.Lib.SplitLaws
namespace Go.Proofs.YtkldhleiipfaaaaDoor.Q
open Go.RowKit Go.Proofs.YtkldhleiipfaaaaDoorW.PrintWords Go.Proofs.YtkldhleiipfaaaaDoorW.PrintLast Go.Proofs.YtkldhleiipfaaaaDoorW.PrintMore
open Go.Proofs.YtkldhleiipfaaaaDoor.Pure Go.Lib
set_option linter.unusedVariables false
set_option linter.unusedSimpArgs false

theorem first_at (c : UInt8) (s : List UInt8) : (Lib.index s [c] = -1 ∧ c ∉ s) ∨ ∃ i : Nat, Lib.index s [c] = i ∧ s = s.take i ++ c :: s.drop (i + 1) ∧ c ∉ s.take i ∧ i < s.length := by
  rw [Lib.index_one]
  have hg := Lib.indexByte_ge s c
  by_cases h : Lib.indexByte s c = -1
  · refine Or.inl ⟨h, fun hm => ?_⟩
    obtain ⟨i, hi⟩ := List.getElem?_of_mem hm
    exact Lib.indexByte_none h i hi
  · obtain ⟨i, hi⟩ : ∃ i : Nat, Lib.indexByte s c = i := ⟨(Lib.indexByte s c).toNat, by omega⟩
    obtain ⟨h1, h2⟩ := Lib.indexByte_some hi
    obtain ⟨hlt, h3⟩ := List.getElem?_eq_some_iff.1 h1
    refine Or.inr ⟨i, hi, ?_, fun hm => ?_, hlt⟩
    · conv => lhs; rw [← List.take_append_drop i s, List.drop_eq_getElem_cons hlt, h3]
    · obtain ⟨j, hj⟩ := List.getElem?_of_mem hm
      have hjl : j < i := by
        have := (List.getElem?_eq_some_iff.1 hj).1
        rw [List.length_take] at this
        omega
      rw [List.getElem?_take_of_lt hjl] at hj
      exact h2 j hjl hj

theorem splitK_cut (c : UInt8) : ∀ (k : Nat) (s : List UInt8), s.count c ≤ k → Lib.splitK [c] 0 k s = cutAt c [] s := by
  intro k
  induction k with
  | zero =>
    intro s h
    have : c ∉ s := fun hm => by have := List.count_pos_iff.2 hm; omega
    rw [cutAt_none c s [] this]
    rfl
  | succ k ih =>
    intro s h
    rcases first_at c s with ⟨h1, h2⟩ | ⟨i, h1, h2, h3, h4⟩
    · rw [Lib.splitK, if_pos (beq_iff_eq.2 h1), cutAt_none c s [] h2]
      rfl
    · have e : ¬ (Lib.index s [c] == -1) = true := fun e => by have := beq_iff_eq.1 e; omega
      have hc : (s.drop (i + 1)).count c ≤ k := by
        have := congrArg (List.count c) h2
        rw [List.count_append, List.count_cons_self] at this
        omega
      rw [Lib.splitK, if_neg e, h1]
      show s.take ((i : Int).toNat + 0) :: Lib.splitK [c] 0 k (s.drop ((i : Int).toNat + 1)) = _
      rw [Int.toNat_natCast, Nat.add_zero, ih _ hc]
      conv => rhs; rw [h2, cutAt_hit c _ _ [] h3]
      rfl

def cutsB (c : UInt8) (s : ByteArray) : List ByteArray := (cutAt c [] s.data.toList).map fun l => (⟨l.toArray⟩ : ByteArray)
theorem cutsB_len (c : UInt8) (s : ByteArray) : 1 ≤ (cutsB c s).length ∧ (cutsB c s).length ≤ s.size + 1 := by
  have := cutAt_len c s.data.toList []
  unfold cutsB
  rw [List.length_map]
  rw [data_length] at this
  exact this
theorem cutsB_mem (c : UInt8) (s x : ByteArray) (h : x ∈ cutsB c s) : x.size ≤ s.size := by
  obtain ⟨l, hl, rfl⟩ := List.mem_map.1 h
  have := cutAt_mem c _ _ l hl
  rw [data_length] at this
  show l.toArray.size ≤ _
  simpa using this
theorem strings_Split.val (s : ByteArray) (c : UInt8) (hs : s.size < 4294967281) : strings_Split.f s ⟨#[c]⟩ = some (cutsB c s) := by
  unfold strings_Split.f
  rw [if_pos ⟨hs, Nat.le_refl 1⟩]
  congr 1
  have h := Lib.splitB_data (⟨#[c]⟩ : ByteArray) 0 (Lib.countB s ⟨#[c]⟩) s
  have h2 : Lib.splitK [c] 0 (Lib.countB s ⟨#[c]⟩) s.data.toList = cutAt c [] s.data.toList := splitK_cut c _ _ (by
    have : Lib.countB s ⟨#[c]⟩ = Lib.count s.data.toList [c] := rfl
    rw [this, Lib.count_one]
    exact Nat.le_refl _)
  have h3 : (Lib.splitB (⟨#[c]⟩ : ByteArray) 0 (Lib.countB s ⟨#[c]⟩) s).map (·.data.toList) = cutAt c [] s.data.toList := h.trans h2
  unfold cutsB
  rw [← h3, List.map_map]
  conv => lhs; rw [← List.map_id (Lib.splitB _ _ _ _)]
  rfl

theorem numV_is (l : List UInt8) (most : Int) : numV l most = match numI most l with | some n => (n, true) | none => (0, false) := by
  unfold numV numI
  cases h : parseIntB 64 l with
  | ok n =>
    simp only
    by_cases hc : itoa n = l ∧ 0 ≤ n ∧ n ≤ most
    · rw [if_pos hc, if_pos hc]
    · rw [if_neg hc, if_neg hc]
  | _ => rfl
def numsR (ws : List (List UInt8)) (many most : Int) : List Int × Bool := match allM (numI most) ws with | some r => (r, (r.length : Int) == many) | none => ([], false)
theorem numbers_loop (most many : Int) (ws : List (List UInt8)) (hl : ws.length ≤ 1048577) (hs : ∀ w ∈ ws, w.length ≤ 1048576) : ∀ d i k (acc : List Int), i + d = ws.length → d < k → acc.length = i →
    impl_numbersOf.l0 k many most acc (ws.map mkB) ((ws.map mkB).length : Int) (i : Nat) = some (match allM (numI most) (ws.drop i) with | some r => (acc ++ r, ((acc ++ r).length : Int) == many) | none => ([], false)) := by
  intro d
  induction d with
  | zero =>
    intro i k acc hi hk ha
    obtain ⟨k, rfl⟩ : ∃ m, k = m + 1 := ⟨k - 1, by omega⟩
    rw [impl_numbersOf.l0, if_neg (by rw [List.length_map]; omega), List.drop_of_length_le (by omega)]
    simp [allM]
  | succ d ih =>
    intro i k acc hi hk ha
    obtain ⟨k, rfl⟩ : ∃ m, k = m + 1 := ⟨k - 1, by omega⟩
    have hlt : i < ws.length := by omega
    have hlm : (ws.map mkB).length = ws.length := List.length_map ..
    rw [impl_numbersOf.l0, if_pos (by omega), if_pos (by omega), if_pos (by omega), rdOf_get _ (ws.map mkB) i (by omega), List.getElem_map]
    have hw := hs _ (List.getElem_mem hlt)
    have hf : impl_number.f (mkB ws[i]) most = some (numV ws[i] most) := by
      unfold impl_number.f
      rw [if_pos (by rw [mk_size]; omega), mk_data]
    rw [hf, Option.bind_some, numV_is, List.drop_eq_getElem_cons hlt]
    cases hn : numI most ws[i] with
    | none =>
      simp only [Bool.false_eq_true, if_false]
      rw [allM_cons_none _ _ _ hn]
    | some n =>
      simp only [if_true]
      rw [if_pos (by omega), wrap_succ (i := i) (n := ws.length) hlt (by omega), ih (i + 1) k (acc ++ [n]) (by omega) (by omega) (by simp [ha]), allM_cons_some _ _ _ _ hn]
      cases allM (numI most) (ws.drop (i + 1)) with
      | none => rfl
      | some r => simp [List.append_assoc]
theorem impl_numbersOf.val (a : ByteArray) (ha : a.size ≤ 1048576) (many most : Int) (k : Nat) (hk : a.size + 3 ≤ k) : impl_numbersOf.f k a many most = some (numsR (cutAt 32 [] a.data.toList) many most) := by
  unfold impl_numbersOf.f
  rw [strings_Split.val a 32 (by omega), Option.bind_some]
  have hc := cutAt_len 32 a.data.toList []
  have hsz : a.data.toList.length = a.size := by rw [Array.length_toList]; rfl
  have := numbers_loop most many (cutAt 32 [] a.data.toList) (by omega) (fun w hw => by have := cutAt_mem 32 a.data.toList [] w hw; simp only [List.length_nil] at this; omega) (cutAt 32 [] a.data.toList).length 0 k [] (by omega) (by omega) rfl
  rw [List.drop_zero] at this
  have e : cutsB 32 a = (cutAt 32 [] a.data.toList).map mkB := rfl
  rw [e]
  unfold numsR
  simpa using this
end Go.Proofs.YtkldhleiipfaaaaDoor.Q
