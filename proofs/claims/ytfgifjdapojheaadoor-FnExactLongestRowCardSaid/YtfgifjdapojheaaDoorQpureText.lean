/- What the looks at a text, a word and the like answer: program and reference alike. -/
import Derived.Test.YtfgifjdapojheaaDoorQspecl01Text
import Derived.Test.YtfgifjdapojheaaDoorQimplValidText
import Derived.Test.YtfgifjdapojheaaDoorQpureLetter
import Derived.Lib.IndexMore
import Derived.Lib.TrimByte
namespace Go.Proofs.YtfgifjdapojheaaDoor.Q
open Go.RowKit Go.Proofs.YtfgifjdapojheaaDoorW.PrintWords Go.Proofs.YtfgifjdapojheaaDoorW.PrintLast Go.Proofs.YtfgifjdapojheaaDoorW.PrintMore
open Go.Proofs.YtfgifjdapojheaaDoor.Pure
set_option linter.unusedVariables false

theorem dropWhile_self {α : Type} (p : α → Bool) (m : List α) : m.dropWhile p = m ↔ ∀ x, m.head? = some x → p x = false := by
  cases m with
  | nil => simp
  | cons a t =>
    simp only [List.dropWhile_cons, List.head?_cons, Option.some.injEq, forall_eq']
    cases h : p a
    · simp
    · simp only [if_true]
      refine ⟨fun he => ?_, fun h => by cases h⟩
      have := (List.dropWhile_suffix (l := t) p).length_le
      rw [he, List.length_cons] at this
      omega
theorem trim_self (l : List UInt8) (c : UInt8) : Lib.trimB l c = l ↔ l.head? ≠ some c ∧ l.getLast? ≠ some c := by
  unfold Lib.trimB
  have hr : Lib.trimRightB l c = l ↔ l.getLast? ≠ some c := by
    unfold Lib.trimRightB
    rw [show ((l.reverse.dropWhile fun x => x == c).reverse = l) ↔ (l.reverse.dropWhile fun x => x == c) = l.reverse from ⟨fun h => by have := congrArg List.reverse h; rwa [List.reverse_reverse] at this, fun h => by rw [h, List.reverse_reverse]⟩, dropWhile_self, List.head?_reverse]
    refine ⟨fun h he => ?_, fun h x hx => ?_⟩
    · have := h c he
      simp at this
    · rw [beq_eq_false_iff_ne]
      rintro rfl
      exact h hx
  have hl : ∀ m : List UInt8, Lib.trimLeftB m c = m ↔ m.head? ≠ some c := by
    intro m
    unfold Lib.trimLeftB
    rw [dropWhile_self]
    refine ⟨fun h he => ?_, fun h x hx => ?_⟩
    · have := h c he
      simp at this
    · rw [beq_eq_false_iff_ne]
      rintro rfl
      exact h hx
  refine ⟨fun h => ?_, fun ⟨h1, h2⟩ => ?_⟩
  · have l1 : (Lib.trimLeftB (Lib.trimRightB l c) c).length ≤ (Lib.trimRightB l c).length := (List.dropWhile_suffix _).length_le
    have l2 : (Lib.trimRightB l c).length ≤ l.length := by
      unfold Lib.trimRightB
      rw [List.length_reverse]
      have := (List.dropWhile_suffix (l := l.reverse) (fun x => x == c)).length_le
      rwa [List.length_reverse] at this
    rw [h] at l1
    have h3 : Lib.trimRightB l c = l := by
      unfold Lib.trimRightB at l1 l2 ⊢
      have hs := List.dropWhile_suffix (l := l.reverse) (fun x => x == c)
      have := hs.eq_of_length (by rw [List.length_reverse] at l1 l2 ⊢; omega)
      rw [this, List.reverse_reverse]
    rw [h3] at h
    exact ⟨(hl l).1 h, hr.1 h3⟩
  · rw [hr.2 h2]
    exact (hl l).2 h1
theorem contains_two (l : List UInt8) (c : UInt8) : Lib.contains l [c, c] = true ↔ ∃ i, l[i]? = some c ∧ l[i + 1]? = some c := by
  have occ : ∀ i, Lib.occAt l [c, c] i = true ↔ l[i]? = some c ∧ l[i + 1]? = some c := by
    intro i
    unfold Lib.occAt
    have e0 : (l.drop i)[0]? = l[i]? := by rw [List.getElem?_drop]; rfl
    have e1 : (l.drop i)[1]? = l[i + 1]? := by rw [List.getElem?_drop]
    rw [← e0, ← e1]
    rcases l.drop i with _ | ⟨x, _ | ⟨y, t⟩⟩
    · simp [List.isPrefixOf]
    · simp [List.isPrefixOf]
    · simp only [List.isPrefixOf, Bool.and_true, Bool.and_eq_true, beq_iff_eq, List.getElem?_cons_zero, List.getElem?_cons_succ, Option.some.injEq]
      constructor <;> rintro ⟨rfl, rfl⟩ <;> exact ⟨rfl, rfl⟩
  unfold Lib.contains
  rw [decide_eq_true_eq]
  rcases Lib.index_spec l [c, c] with ⟨h, hn⟩ | ⟨i, h, hi, ho, _⟩
  · rw [h]
    refine ⟨fun h => absurd h (by decide), fun ⟨i, h1, h2⟩ => ?_⟩
    have := hn i (by have := (List.getElem?_eq_some_iff.1 h1).1; omega)
    rw [(occ i).2 ⟨h1, h2⟩] at this
    cases this
  · rw [h]
    exact ⟨fun _ => ⟨i, (occ i).1 ho⟩, fun _ => by omega⟩

def okAt (a : ByteArray) (i : Nat) : Bool := if bt a i = 32 then !(i == 0) && !(i + 1 == a.size) && !(bt a (i - 1 : Nat) == 32) else isL (bt a i)
/-- A valid text. -/
def textB (a : ByteArray) : Bool := (List.range a.size).all (okAt a) && decide ((a.size : Int) ≤ 60)

theorem bt_list (a : ByteArray) (i : Nat) (h : i < a.size) (c : UInt8) : a.data.toList[i]? = some c ↔ bt a i = c.toNat := by
  have hb : a.data.toList[i]? = some (a[i]'h) := by
    rw [Array.getElem?_toList, Array.getElem?_eq_getElem (show i < a.data.size from h)]; rfl
  rw [hb]
  have hb2 : bt a i = ((a[i]'h).toNat : Int) := by
    unfold bt
    rw [dif_pos (show ((i : Int)).toNat < a.size from h)]
    rfl
  rw [hb2]
  simp only [Option.some.injEq]
  refine ⟨fun e => by rw [e], fun e => ?_⟩
  have : (a[i]'h).toNat = c.toNat := by omega
  exact UInt8.toNat_inj.1 this
theorem list_len (a : ByteArray) : a.data.toList.length = a.size := by rw [Array.length_toList]; rfl
theorem bt_list_none (a : ByteArray) (i : Nat) (h : ¬ i < a.size) (c : UInt8) : ¬ a.data.toList[i]? = some c := by
  rw [List.getElem?_eq_none (by rw [list_len]; omega)]
  simp

theorem spec_l01Text.val (a : ByteArray) (ha : a.size ≤ 9223372036854775807) : spec_l01Text.f (a.size + 1) a = some (textB a) := by
  unfold spec_l01Text.f textB
  refine scan_all (l := fun k i => spec_l01Text.l0 k a i) (fun k i hi => ?_) (fun k => ?_) _ (by omega)
  · simp only [spec_l01Text.l0, spec_l01Letter.val, Option.bind_some]
    rw [if_pos (by omega), if_pos (by omega), wrap_succ hi ha, wrap_id (n := (a.size : Int) - 1) (by omega) (by omega), wrap_id (n := (i : Int) - 1) (by omega) (by omega)]
    unfold okAt
    by_cases h1 : bt a i = 32
    · rw [if_pos h1, if_pos h1]
      by_cases h2 : (i : Int) = 0
      · rw [if_pos h2]
        simp [show i = 0 by omega]
      · rw [if_neg h2]
        by_cases h3 : (i : Int) = (a.size : Int) - 1
        · rw [if_pos h3]
          simp [show i + 1 = a.size by omega]
        · rw [if_neg h3, if_pos (by omega), if_pos (by omega), show (i : Int) - 1 = ((i - 1 : Nat) : Int) by omega]
          by_cases h4 : bt a ((i - 1 : Nat) : Int) = 32
          · rw [if_pos h4]
            simp [h4]
          · rw [if_neg h4]
            simp [h4, show ¬ i = 0 by omega, show ¬ i + 1 = a.size by omega]
    · rw [if_neg h1, if_neg h1]
  · simp [spec_l01Text.l0]

theorem all_ok (a : ByteArray) : (List.range a.size).all (okAt a) = true ↔
    ((List.range a.size).all (fun i => isL (bt a i) || bt a i == 32) = true ∧ ¬ Lib.contains a.data.toList [32, 32] = true ∧ Lib.trimB a.data.toList 32 = a.data.toList) := by
  have h32 : isL 32 = false := by decide
  have c32 : ((32 : UInt8).toNat : Int) = 32 := by decide
  rw [contains_two, trim_self]
  simp only [List.all_eq_true, List.mem_range, okAt]
  refine ⟨fun h => ⟨fun i hi => ?_, ?_, ?_, ?_⟩, fun ⟨h1, h2, h3, h4⟩ i hi => ?_⟩
  · have := h i hi
    by_cases hb : bt a i = 32
    · simp [hb]
    · rw [if_neg hb] at this
      simp [this]
  · rintro ⟨i, h1, h2⟩
    have hi : i + 1 < a.size := by have := (List.getElem?_eq_some_iff.1 h2).1; rw [list_len] at this; exact this
    have b1 := (bt_list a i (by omega) 32).1 h1
    have b2 := (bt_list a (i + 1) hi 32).1 h2
    rw [c32] at b1 b2
    have := h (i + 1) hi
    rw [if_pos b2] at this
    simp [b1] at this
  · rw [List.head?_eq_getElem?]
    by_cases hz : 0 < a.size
    · intro h1
      have b1 := (bt_list a 0 hz 32).1 h1
      rw [c32] at b1
      have := h 0 hz
      rw [if_pos b1] at this
      simp at this
    · exact bt_list_none a 0 hz 32
  · rw [List.getLast?_eq_getElem?, list_len]
    by_cases hz : 0 < a.size
    · intro h1
      have b1 := (bt_list a (a.size - 1) (by omega) 32).1 h1
      rw [c32] at b1
      have := h (a.size - 1) (by omega)
      rw [if_pos b1] at this
      simp [show a.size - 1 + 1 = a.size by omega] at this
    · intro h1
      exact bt_list_none a (a.size - 1) (by omega) 32 h1
  · by_cases hb : bt a i = 32
    · rw [if_pos hb]
      have b1 := (bt_list a i hi 32).2 (by rw [c32]; exact hb)
      have n0 : i ≠ 0 := by
        rintro rfl
        exact h3 (by rw [List.head?_eq_getElem?]; exact b1)
      have n1 : i + 1 ≠ a.size := by
        intro e
        exact h4 (by rw [List.getLast?_eq_getElem?, list_len, show a.size - 1 = i by omega]; exact b1)
      have n2 : bt a ((i - 1 : Nat) : Int) ≠ 32 := by
        intro e
        have b0 := (bt_list a (i - 1) (by omega) 32).2 (by rw [c32]; exact e)
        exact h2 ⟨i - 1, b0, by rw [show i - 1 + 1 = i by omega]; exact b1⟩
      simp [n0, n1, n2]
    · rw [if_neg hb]
      have := h1 i hi
      simpa [hb] using this

theorem impl_isSpaced.val (a : ByteArray) (ha : a.size < 4294967281) : impl_isSpaced.f (a.size + 1) a = some ((List.range a.size).all (fun i => isL (bt a i) || bt a i == 32) && !Lib.contains a.data.toList [32, 32]) := by
  unfold impl_isSpaced.f
  refine scan_all (l := fun k i => impl_isSpaced.l0 k a (a.size : Int) i) (fun k i hi => ?_) (fun k => ?_) _ (by omega)
  · simp only [impl_isSpaced.l0, impl_isLetter.val, Option.bind_some]
    rw [if_pos (by omega), if_pos (by omega), if_pos (by omega), wrap_succ hi (by omega)]
    by_cases h1 : bt a i = 32 <;> cases h2 : isL (bt a i) <;> simp [h1]
  · simp only [impl_isSpaced.l0]
    rw [if_neg (by omega)]
    unfold strings_Contains.f
    rw [if_pos ha]
    rfl
theorem impl_ValidText.val (a : ByteArray) (ha : a.size ≤ 9223372036854775807) : impl_ValidText.f (a.size + 1) a = some (textB a) := by
  unfold impl_ValidText.f textB
  by_cases h60 : (a.size : Int) ≤ 60
  · rw [if_pos h60, impl_isSpaced.val a (by omega)]
    unfold strings_Trim.f
    rw [if_pos ⟨rfl, ha⟩]
    simp only [Option.bind_some]
    have hk := all_ok a
    by_cases ht : (List.range a.size).all (okAt a) = true
    · obtain ⟨h1, h2, h3⟩ := hk.1 ht
      rw [ht, h1, Bool.eq_false_iff.2 h2]
      simp [h60, ByteArray.toList_eq, h3]
    · have ht' := Bool.eq_false_iff.2 ht
      rw [ht']
      by_cases h1 : (List.range a.size).all (fun i => isL (bt a i) || bt a i == 32) = true
      · by_cases h2 : Lib.contains a.data.toList [32, 32] = true
        · simp [h1, h2]
        · have h3 : ¬ Lib.trimB a.data.toList 32 = a.data.toList := fun h3 => ht (hk.2 ⟨h1, h2, h3⟩)
          rw [h1, Bool.eq_false_iff.2 h2]
          simp [ByteArray.toList_eq, h3]
      · rw [Bool.eq_false_iff.2 h1]
        simp
  · rw [if_neg h60]
    simp [h60]
end Go.Proofs.YtfgifjdapojheaaDoor.Q
