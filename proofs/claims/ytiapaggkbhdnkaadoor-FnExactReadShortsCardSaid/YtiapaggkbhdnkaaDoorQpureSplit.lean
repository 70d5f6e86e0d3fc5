/- A text, cut at a byte: the library's strings.Split and strings.Cut, and the reference's split. -/
import Derived.Test.YtiapaggkbhdnkaaDoorQpureFields
import Derived.Test.YtiapaggkbhdnkaaDoorQlibSplit
import Derived.Lib.SplitLaws
namespace Go.Proofs.YtiapaggkbhdnkaaDoor.Q
open Go.RowKit Go.Proofs.YtiapaggkbhdnkaaDoorW.PrintWords Go.Proofs.YtiapaggkbhdnkaaDoorW.PrintLast Go.Proofs.YtiapaggkbhdnkaaDoorW.PrintMore
open Go.Proofs.YtiapaggkbhdnkaaDoor.Pure
set_option linter.unusedVariables false

/-- A list, cut at each c; 'cur': what has been read of the piece under way. -/
def cutAt (c : UInt8) : List UInt8 → List UInt8 → List (List UInt8)
  | cur, [] => [cur]
  | cur, b :: t => if b = c then cur :: cutAt c [] t else cutAt c (cur ++ [b]) t

theorem cutAt_none (c : UInt8) : ∀ (t cur : List UInt8), c ∉ t → cutAt c cur t = [cur ++ t] := by
  intro t
  induction t with
  | nil => intro cur _; simp [cutAt]
  | cons b t ih =>
    intro cur h
    rw [List.mem_cons, not_or] at h
    rw [cutAt, if_neg (fun e => h.1 e.symm), ih _ h.2, List.append_assoc]
    rfl
theorem cutAt_hit (c : UInt8) (t : List UInt8) : ∀ (a cur : List UInt8), c ∉ a → cutAt c cur (a ++ c :: t) = (cur ++ a) :: cutAt c [] t := by
  intro a
  induction a with
  | nil => intro cur _; simp [cutAt]
  | cons b a ih =>
    intro cur h
    rw [List.mem_cons, not_or] at h
    rw [List.cons_append, cutAt, if_neg (fun e => h.1 e.symm), ih _ h.2, List.append_assoc]
    rfl
theorem cutAt_len (c : UInt8) : ∀ (t cur : List UInt8), 1 ≤ (cutAt c cur t).length ∧ (cutAt c cur t).length ≤ t.length + 1 := by
  intro t
  induction t with
  | nil => intro cur; simp [cutAt]
  | cons b t ih =>
    intro cur
    rw [cutAt]
    split
    · have := ih []
      simp only [List.length_cons]; omega
    · have := ih (cur ++ [b])
      simp only [List.length_cons]; omega
theorem cutAt_mem (c : UInt8) : ∀ (t cur x : List UInt8), x ∈ cutAt c cur t → x.length ≤ cur.length + t.length := by
  intro t
  induction t with
  | nil => intro cur x h; simp [cutAt] at h; subst h; simp
  | cons b t ih =>
    intro cur x h
    rw [cutAt] at h
    split at h
    · rcases List.mem_cons.1 h with rfl | h
      · omega
      · have := ih [] x h
        simp at this ⊢; omega
    · have := ih _ x h
      simp at this ⊢; omega

/-- Where a byte stands first in a list. -/
theorem first_at (c : UInt8) (s : List UInt8) : (Lib.index s [c] = -1 ∧ c ∉ s) ∨ ∃ i : Nat, Lib.index s [c] = i ∧ s = s.take i ++ c :: s.drop (i + 1) ∧ c ∉ s.take i ∧ i < s.length := by
  rw [Lib.index_one]
  have hg := Lib.indexByte_ge s c
  by_cases h : Lib.indexByte s c = -1
  · refine Or.inl ⟨h, fun hm => ?_⟩
    obtain ⟨i, hi⟩ := List.getElem?_of_mem hm
    exact Lib.indexByte_none h i hi
  · obtain ⟨i, hi⟩ : ∃ i : Nat, Lib.indexByte s c = i := ⟨(Lib.indexByte s c).toNat, by omega⟩
    obtain ⟨h1, h2⟩ := Lib.indexByte_some hi
    obtain ⟨hlt, h3⟩ := List.getElem?_eq_some_iff.1 h1
    refine Or.inr ⟨i, hi, ?_, fun hm => ?_, hlt⟩
    · conv => lhs; rw [← List.take_append_drop i s, List.drop_eq_getElem_cons hlt, h3]
    · obtain ⟨j, hj⟩ := List.getElem?_of_mem hm
      have hjl : j < i := by
        have := (List.getElem?_eq_some_iff.1 hj).1
        rw [List.length_take] at this
        omega
      rw [List.getElem?_take_of_lt hjl] at hj
      exact h2 j hjl hj

theorem splitK_cut (c : UInt8) : ∀ (k : Nat) (s : List UInt8), s.count c ≤ k → Lib.splitK [c] 0 k s = cutAt c [] s := by
  intro k
  induction k with
  | zero =>
    intro s h
    have : c ∉ s := fun hm => by have := List.count_pos_iff.2 hm; omega
    rw [cutAt_none c s [] this]
    rfl
  | succ k ih =>
    intro s h
    rcases first_at c s with ⟨h1, h2⟩ | ⟨i, h1, h2, h3, h4⟩
    · rw [Lib.splitK, if_pos (beq_iff_eq.2 h1), cutAt_none c s [] h2]
      rfl
    · have e : ¬ (Lib.index s [c] == -1) = true := fun e => by have := beq_iff_eq.1 e; omega
      have hc : (s.drop (i + 1)).count c ≤ k := by
        have := congrArg (List.count c) h2
        rw [List.count_append, List.count_cons_self] at this
        omega
      rw [Lib.splitK, if_neg e, h1]
      show s.take ((i : Int).toNat + 0) :: Lib.splitK [c] 0 k (s.drop ((i : Int).toNat + 1)) = _
      rw [Int.toNat_natCast, Nat.add_zero, ih _ hc]
      conv => rhs; rw [h2, cutAt_hit c _ _ [] h3]
      rfl

def cutsB (c : UInt8) (s : ByteArray) : List ByteArray := (cutAt c [] s.data.toList).map fun l => (⟨l.toArray⟩ : ByteArray)
theorem cutsB_len (c : UInt8) (s : ByteArray) : 1 ≤ (cutsB c s).length ∧ (cutsB c s).length ≤ s.size + 1 := by
  have := cutAt_len c s.data.toList []
  unfold cutsB
  rw [List.length_map]
  rw [data_length] at this
  exact this
theorem cutsB_mem (c : UInt8) (s x : ByteArray) (h : x ∈ cutsB c s) : x.size ≤ s.size := by
  obtain ⟨l, hl, rfl⟩ := List.mem_map.1 h
  have := cutAt_mem c _ _ l hl
  rw [data_length] at this
  show l.toArray.size ≤ _
  simpa using this
theorem strings_Split.val (s : ByteArray) (c : UInt8) (hs : s.size < 4294967281) : strings_Split.f s ⟨#[c]⟩ = some (cutsB c s) := by
  unfold strings_Split.f
  rw [if_pos ⟨hs, Nat.le_refl 1⟩]
  congr 1
  have h := Lib.splitB_data (⟨#[c]⟩ : ByteArray) 0 (Lib.countB s ⟨#[c]⟩) s
  have h2 : Lib.splitK [c] 0 (Lib.countB s ⟨#[c]⟩) s.data.toList = cutAt c [] s.data.toList := splitK_cut c _ _ (by
    have : Lib.countB s ⟨#[c]⟩ = Lib.count s.data.toList [c] := rfl
    rw [this, Lib.count_one]
    exact Nat.le_refl _)
  have h3 : (Lib.splitB (⟨#[c]⟩ : ByteArray) 0 (Lib.countB s ⟨#[c]⟩) s).map (·.data.toList) = cutAt c [] s.data.toList := h.trans h2
  unfold cutsB
  rw [← h3, List.map_map]
  conv => lhs; rw [← List.map_id (Lib.splitB _ _ _ _)]
  rfl

theorem split_cut (a : ByteArray) (c : UInt8) (ha : a.size ≤ 1048576) : ∀ d i s (acc : List ByteArray), i + d = a.size → s ≤ i → acc.length ≤ i →
    spec_l01Split.l0 (d + 1) a (c.toNat : Int) acc (s : Nat) (i : Nat) = some (acc ++ (cutAt c (sliceL a s i) (a.data.toList.drop i)).map fun l => (⟨l.toArray⟩ : ByteArray)) := by
  intro d
  induction d with
  | zero =>
    intro i s acc hi hs hacc
    obtain rfl : i = a.size := by omega
    rw [spec_l01Split.l0, if_neg (by omega), if_pos (by omega), if_pos (by omega), if_pos (by omega), List.drop_of_length_le (by rw [data_length]; exact Nat.le_refl _), Int.toNat_natCast, extract_slice]
    simp [cutAt]
  | succ d ih =>
    intro i s acc hi hs hacc
    have hlt : i < a.size := by omega
    have hd : a.data.toList.drop i = a[i] :: a.data.toList.drop (i + 1) := by
      rw [List.drop_eq_getElem_cons (by rw [data_length]; exact hlt)]
      rfl
    have hb := byte_at a i hlt
    rw [spec_l01Split.l0, if_pos (by omega), if_pos (by omega), wrap_succ hlt (by omega), hd, cutAt]
    by_cases e : a[i] = c
    · have c2 : bt a i = (c.toNat : Int) := by rw [hb, e]
      have h0 : sliceL a (i + 1) (i + 1) = [] := by simp [sliceL]
      rw [if_pos c2, if_pos e, if_pos (by omega), if_pos (by omega), if_pos (by omega), if_pos (by omega), Int.toNat_natCast, Int.toNat_natCast, ih (i + 1) (i + 1) _ (by omega) (Nat.le_refl _) (by rw [List.length_append]; simp; omega), h0, extract_slice]
      simp
    · have c2 : ¬ bt a i = (c.toNat : Int) := by
        rw [hb]
        intro h
        exact e (UInt8.toNat_inj.1 (by omega))
      rw [if_neg c2, if_neg e, ih (i + 1) s acc (by omega) (by omega) (by omega), sliceL_step a s i hs hlt]

theorem spec_l01Split.val (a : ByteArray) (c : UInt8) (ha : a.size ≤ 1048576) (k : Nat) (hk : a.size + 1 ≤ k) : spec_l01Split.f k a (c.toNat : Int) = some (cutsB c a) := by
  refine at_rounds (spec_l01Split.mono a (c.toNat : Int)) hk ?_
  have := split_cut a c ha a.size 0 0 [] (by omega) (Nat.le_refl _) (Nat.le_refl _)
  rw [List.nil_append, List.drop_zero] at this
  unfold spec_l01Split.f cutsB
  exact this
end Go.Proofs.YtiapaggkbhdnkaaDoor.Q
