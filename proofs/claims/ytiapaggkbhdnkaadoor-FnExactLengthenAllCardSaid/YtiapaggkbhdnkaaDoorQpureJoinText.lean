/- Words of letters, joined by one space, are a valid text as soon as they are short enough. -/
import Derived.Test.YtiapaggkbhdnkaaDoorQpureJoined
import Derived.Test.YtiapaggkbhdnkaaDoorQimplValidShorts
namespace Go.Proofs.YtiapaggkbhdnkaaDoor.Q
open Go.RowKit Go.Proofs.YtiapaggkbhdnkaaDoorW.PrintWords Go.Proofs.YtiapaggkbhdnkaaDoorW.PrintLast Go.Proofs.YtiapaggkbhdnkaaDoorW.PrintMore
open Go.Proofs.YtiapaggkbhdnkaaDoor.Pure
set_option linter.unusedVariables false
set_option linter.unusedSimpArgs false

def goodL (l : List UInt8) : Prop := l ≠ [] ∧ ∀ b ∈ l, isL (b.toNat : Int) = true
def inv32 (l : List UInt8) : Prop := (∀ b ∈ l, isL (b.toNat : Int) = true ∨ b = 32) ∧ (∀ i : Nat, ¬ (l[i]? = some 32 ∧ l[i + 1]? = some 32)) ∧ l.head? ≠ some 32 ∧ l.getLast? ≠ some 32
theorem isL_ne {b : UInt8} (h : isL (b.toNat : Int) = true) : b ≠ 32 := by
  rintro rfl
  revert h
  decide
theorem good_at {l : List UInt8} (h : goodL l) (i : Nat) : l[i]? ≠ some 32 := by
  intro e
  exact isL_ne (h.2 _ (List.mem_of_getElem? e)) rfl
theorem good_inv {l : List UInt8} (h : goodL l) : inv32 l :=
  ⟨fun b hb => .inl (h.2 b hb), fun i hi => good_at h i hi.1, by rw [List.head?_eq_getElem?]; exact good_at h 0, by rw [List.getLast?_eq_getElem?]; exact good_at h _⟩
theorem inv_join {x m : List UInt8} (hx : goodL x) (hm0 : m ≠ []) (hm : inv32 m) : inv32 (x ++ 32 :: m) := by
  obtain ⟨h1, h2, h3, h4⟩ := hm
  have hp : 0 < x.length := List.length_pos_iff.2 hx.1
  refine ⟨fun b hb => ?_, fun i hi => ?_, ?_, ?_⟩
  · rcases List.mem_append.1 hb with hb | hb
    · exact .inl (hx.2 b hb)
    · rcases List.mem_cons.1 hb with rfl | hb
      · exact .inr rfl
      · exact h1 b hb
  · obtain ⟨e1, e2⟩ := hi
    by_cases c1 : i < x.length
    · rw [List.getElem?_append_left c1] at e1
      exact good_at hx i e1
    · rw [List.getElem?_append_right (by omega)] at e1 e2
      rw [show i + 1 - x.length = (i - x.length) + 1 by omega, List.getElem?_cons_succ] at e2
      by_cases c2 : i = x.length
      · rw [c2, Nat.sub_self] at e2
        exact h3 (by rw [List.head?_eq_getElem?]; exact e2)
      · obtain ⟨j, hj⟩ : ∃ j, i - x.length = j + 1 := ⟨i - x.length - 1, by omega⟩
        rw [hj] at e1 e2
        rw [List.getElem?_cons_succ] at e1
        exact h2 j ⟨e1, e2⟩
  · rw [List.head?_eq_getElem?, List.getElem?_append_left hp]
    exact good_at hx 0
  · rw [List.getLast?_append, List.getLast?_cons]
    cases hq : m.getLast? with
    | none => exact absurd (List.getLast?_eq_none_iff.1 hq) hm0
    | some y =>
      rw [hq] at h4
      simpa using h4
theorem join_two (x y : List UInt8) (r : List (List UInt8)) : Lib.join (x :: y :: r) [32] = x ++ 32 :: Lib.join (y :: r) [32] := by
  rw [Lib.join_cons, Lib.join_cons]
  show x ++ (([32] ++ y) ++ Lib.joinTail [32] r) = _
  simp
theorem join_inv : ∀ (l : List (List UInt8)), (∀ x ∈ l, goodL x) → inv32 (Lib.join l [32]) ∧ (l ≠ [] → Lib.join l [32] ≠ [])
  | [], _ => ⟨by
      rw [Lib.join_nil]
      exact ⟨fun b hb => by simp at hb, fun i hi => by simp at hi, by simp, by simp⟩, fun h => absurd rfl h⟩
  | [x], h => by
    rw [Lib.join_one]
    have := h x (List.mem_singleton.2 rfl)
    exact ⟨good_inv this, fun _ => this.1⟩
  | x :: y :: r, h => by
    rw [join_two]
    obtain ⟨h1, h2⟩ := join_inv (y :: r) (fun z hz => h z (List.mem_cons_of_mem _ hz))
    exact ⟨inv_join (h x (List.mem_cons_self ..)) (h2 (by simp)) h1, fun _ => by simp⟩
theorem bt_mem (a : ByteArray) (i : Nat) (hi : i < a.size) : ∃ b : UInt8, b ∈ a.data.toList ∧ bt a i = (b.toNat : Int) := by
  refine ⟨a.data.toList[i]'(by rw [list_len]; exact hi), List.getElem_mem _, ?_⟩
  exact (bt_list a i hi _).1 (List.getElem?_eq_getElem _)
theorem text_of_inv (a : ByteArray) (h : inv32 a.data.toList) : textB a = decide ((a.size : Int) ≤ 60) := by
  unfold textB
  rw [(all_ok a).2 ⟨?_, ?_, ?_⟩, Bool.true_and]
  · rw [List.all_eq_true]
    intro i hi
    obtain ⟨b, hb, e⟩ := bt_mem a i (List.mem_range.1 hi)
    rw [e]
    rcases h.1 b hb with h | rfl
    · rw [h]; rfl
    · rfl
  · rw [contains_two]
    rintro ⟨i, hi⟩
    exact h.2.1 i hi
  · rw [trim_self]
    exact h.2.2
def goodB (a : ByteArray) : Prop := goodL a.data.toList
theorem join_text (l : List ByteArray) (h : ∀ x ∈ l, goodB x) : textB (joinB l spB) = decide (((joinB l spB).size : Int) ≤ 60) := by
  apply text_of_inv
  refine (join_inv (l.map (·.data.toList)) fun x hx => ?_).1
  obtain ⟨y, hy, rfl⟩ := List.mem_map.1 hx
  exact h y hy
theorem word_good (a : ByteArray) (h : wordB a = true) : goodB a := by
  unfold wordB at h
  rw [Bool.and_eq_true, List.all_eq_true, decide_eq_true_eq] at h
  refine ⟨fun e => ?_, fun b hb => ?_⟩
  · have := list_len a
    rw [e] at this
    simp at this
    omega
  · obtain ⟨i, hi, rfl⟩ := List.mem_iff_getElem.1 hb
    have hi' : i < a.size := by rw [list_len] at hi; exact hi
    have := h.1 i (List.mem_range.2 hi')
    rw [(bt_list a i hi' _).1 (List.getElem?_eq_getElem hi)] at this
    exact this
theorem fieldsGo_good : ∀ (l cur : List UInt8), (∀ b ∈ cur, isL (b.toNat : Int) = true) → (∀ b ∈ l, Lib.isSp b = true ∨ isL (b.toNat : Int) = true) → ∀ y ∈ Lib.fieldsGo cur l, goodL y
  | [], cur, hc, _, y, hy => by
    unfold Lib.fieldsGo at hy
    split at hy
    · cases hy
    · rename_i hn
      rw [List.mem_singleton.1 hy]
      exact ⟨by rintro rfl; exact hn rfl, hc⟩
  | b :: l, cur, hc, hl, y, hy => by
    unfold Lib.fieldsGo at hy
    have hl' : ∀ b ∈ l, Lib.isSp b = true ∨ isL (b.toNat : Int) = true := fun z hz => hl z (List.mem_cons_of_mem _ hz)
    split at hy
    · split at hy
      · exact fieldsGo_good l [] (fun b hb => by simp at hb) hl' y hy
      · rename_i hn
        rcases List.mem_cons.1 hy with rfl | hy
        · exact ⟨by rintro rfl; exact hn rfl, hc⟩
        · exact fieldsGo_good l [] (fun b hb => by simp at hb) hl' y hy
    · rename_i hs
      refine fieldsGo_good l (cur ++ [b]) (fun z hz => ?_) hl' y hy
      rcases List.mem_append.1 hz with hz | hz
      · exact hc z hz
      · rw [List.mem_singleton.1 hz]
        rcases hl b (List.mem_cons_self ..) with h | h
        · exact absurd h hs
        · exact h
theorem words_good {a : ByteArray} (h : textB a = true) : ∀ x ∈ wordsF a, goodB x := by
  intro x hx
  unfold wordsF at hx
  obtain ⟨y, hy, rfl⟩ := List.mem_map.1 hx
  have h1 := h
  unfold textB at h1
  rw [Bool.and_eq_true] at h1
  have h2 := (all_ok a).1 h1.1
  have h3 := h2.1
  rw [List.all_eq_true] at h3
  refine fieldsGo_good a.data.toList [] (fun b hb => by simp at hb) (fun b hb => ?_) y hy
  obtain ⟨i, hi, rfl⟩ := List.mem_iff_getElem.1 hb
  have hi' : i < a.size := by rw [list_len] at hi; exact hi
  have h4 := h3 i (List.mem_range.2 hi')
  rw [(bt_list a i hi' _).1 (List.getElem?_eq_getElem hi), Bool.or_eq_true] at h4
  rcases h4 with h4 | h4
  · exact .inr h4
  · left
    have h5 : ((a.data.toList[i]'hi).toNat : Int) = 32 := by simpa using h4
    have h6 : a.data.toList[i]'hi = 32 := UInt8.toNat_inj.1 (by have : (32 : UInt8).toNat = 32 := rfl; omega)
    rw [h6]
    rfl
theorem shorts_good {l : List ISh} (h : shortsB l = true) : ∀ x ∈ l, goodB x.f0 := by
  intro x hx
  unfold shortsB at h
  rw [Bool.and_eq_true, List.all_eq_true] at h
  obtain ⟨i, hi, rfl⟩ := List.mem_iff_getElem.1 hx
  have h1 := h.1 i (List.mem_range.2 hi)
  unfold stSh okSh at h1
  rw [rdISh_get l i hi] at h1
  simp only [Bool.and_eq_true] at h1
  exact word_good _ h1.1.1.1.1
end Go.Proofs.YtiapaggkbhdnkaaDoor.Q
