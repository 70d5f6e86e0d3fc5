/- Words: program and reference alike. -/
import Derived.Test.YtiapaggkbhdnkaaDoorQpureText
import Derived.Test.YtiapaggkbhdnkaaDoorBase
import Derived.Test.YtiapaggkbhdnkaaDoorQimplisWord
import Derived.Test.YtiapaggkbhdnkaaDoorQspecl01Word
namespace Go.Proofs.YtiapaggkbhdnkaaDoor.Q
open Go.RowKit Go.Proofs.YtiapaggkbhdnkaaDoorW.PrintWords Go.Proofs.YtiapaggkbhdnkaaDoorW.PrintLast Go.Proofs.YtiapaggkbhdnkaaDoorW.PrintMore
open Go.Proofs.YtiapaggkbhdnkaaDoor.Pure
set_option linter.unusedVariables false

theorem contains_one (l : List UInt8) (c : UInt8) : Lib.contains l [c] = true ↔ ∃ i : Nat, l[i]? = some c := by
  have occ : ∀ i, Lib.occAt l [c] i = true ↔ l[i]? = some c := by
    intro i
    unfold Lib.occAt
    have e0 : (l.drop i)[0]? = l[i]? := by rw [List.getElem?_drop]; rfl
    rw [← e0]
    rcases l.drop i with _ | ⟨x, t⟩
    · simp [List.isPrefixOf]
    · simp only [List.isPrefixOf, Bool.and_true, beq_iff_eq, List.getElem?_cons_zero, Option.some.injEq]
      exact ⟨fun h => h.symm, fun h => h.symm⟩
  unfold Lib.contains
  rw [decide_eq_true_eq]
  rcases Lib.index_spec l [c] with ⟨h, hn⟩ | ⟨i, h, hi, ho, _⟩
  · rw [h]
    refine ⟨fun h => absurd h (by decide), fun ⟨i, h1⟩ => ?_⟩
    have := hn i (by have := (List.getElem?_eq_some_iff.1 h1).1; omega)
    rw [(occ i).2 h1] at this
    cases this
  · rw [h]
    exact ⟨fun _ => ⟨i, (occ i).1 ho⟩, fun _ => by omega⟩

theorem impl_ValidText.valM (a : ByteArray) (k : Nat) (hk : 61 ≤ k) : impl_ValidText.f k a = some (textB a) := by
  by_cases h : a.size ≤ 60
  · exact at_rounds (impl_ValidText.mono a) (by omega) (impl_ValidText.val a (by omega))
  · unfold impl_ValidText.f textB
    rw [if_neg (by omega)]
    simp [show ¬ ((a.size : Int) ≤ 60) by omega]

/-- Letters, one or more. -/
def wordB (a : ByteArray) : Bool := (List.range a.size).all (fun i => isL (bt a i)) && decide (0 < a.size)

theorem empty_size (a : ByteArray) : a.toList = [] ↔ a.size = 0 := by
  rw [ByteArray.toList_eq, ← data_length, List.length_eq_zero_iff]

theorem text_word (a : ByteArray) (h0 : a.size ≠ 0) : (textB a && !Lib.contains a.data.toList [32]) = (wordB a && decide ((a.size : Int) ≤ 60)) := by
  have c32 : ((32 : UInt8).toNat : Int) = 32 := by decide
  have h32 : isL 32 = false := by decide
  rw [Bool.eq_iff_iff]
  unfold textB wordB
  simp only [Bool.and_eq_true, Bool.not_eq_true', List.all_eq_true, List.mem_range, decide_eq_true_iff, okAt]
  constructor
  · rintro ⟨⟨h1, h2⟩, h3⟩
    refine ⟨⟨fun i hi => ?_, by omega⟩, h2⟩
    have := h1 i hi
    by_cases hb : bt a i = 32
    · have : Lib.contains a.data.toList [32] = true := (contains_one _ _).2 ⟨i, (bt_list a i hi 32).2 (by rw [c32]; exact hb)⟩
      rw [this] at h3
      cases h3
    · rw [if_neg hb] at this
      exact this
  · rintro ⟨⟨h1, _⟩, h2⟩
    refine ⟨⟨fun i hi => ?_, h2⟩, ?_⟩
    · have := h1 i hi
      rw [if_neg (fun hb => by rw [hb, h32] at this; cases this)]
      exact this
    · rw [Bool.eq_false_iff]
      intro h
      obtain ⟨i, hi⟩ := (contains_one _ _).1 h
      have hl : i < a.size := by have := (List.getElem?_eq_some_iff.1 hi).1; rw [list_len] at this; exact this
      have := (bt_list a i hl 32).1 hi
      have h4 := h1 i hl
      rw [this, c32, h32] at h4
      cases h4

theorem impl_isWord.valM (a : ByteArray) (k : Nat) (hk : 61 ≤ k) : impl_isWord.f k a = some (wordB a && decide ((a.size : Int) ≤ 60)) := by
  unfold impl_isWord.f
  rw [impl_ValidText.valM a k hk]
  simp only [Option.bind_some]
  by_cases h0 : a.size = 0
  · rw [if_pos ((empty_size a).2 h0)]
    simp [wordB, h0]
  · rw [if_neg (fun h => h0 ((empty_size a).1 h)), ← text_word a h0]
    cases ht : textB a
    · simp
    · have h60 : (a.size : Int) ≤ 60 := by
        unfold textB at ht
        simp only [Bool.and_eq_true, decide_eq_true_iff] at ht
        exact ht.2
      unfold strings_Contains.f
      rw [if_pos rfl, if_pos (by omega)]
      simp

theorem spec_l01Word.val (a : ByteArray) (ha : a.size ≤ 9223372036854775807) : spec_l01Word.f (a.size + 1) a = some (wordB a) := by
  unfold spec_l01Word.f wordB
  refine scan_all (l := fun k i => spec_l01Word.l0 k a i) (fun k i hi => ?_) (fun k => ?_) _ (by omega)
  · simp only [spec_l01Word.l0, spec_l01Letter.val, Option.bind_some]
    rw [if_pos (by omega), if_pos (by omega), wrap_succ hi ha]
  · simp [spec_l01Word.l0]

end Go.Proofs.YtiapaggkbhdnkaaDoor.Q
