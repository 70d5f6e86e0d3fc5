/- The words of a valid text: strings.Fields and the reference's split at blanks. -/
import Derived.Test.YtiapaggkbhdnkaaDoorQpureText
import Derived.Test.YtiapaggkbhdnkaaDoorBase
import Derived.Test.YtiapaggkbhdnkaaDoorQlibF
import Derived.Test.YtiapaggkbhdnkaaDoorQL1
namespace Go.Proofs.YtiapaggkbhdnkaaDoor.Q
open Go.RowKit Go.Proofs.YtiapaggkbhdnkaaDoorW.PrintWords Go.Proofs.YtiapaggkbhdnkaaDoorW.PrintLast Go.Proofs.YtiapaggkbhdnkaaDoorW.PrintMore
open Go.Proofs.YtiapaggkbhdnkaaDoor.Pure
set_option linter.unusedVariables false

theorem bytesOf_at (a : ByteArray) (i : Nat) (h : i < a.size) : (bytesOf a)[i]'(by rw [bytesOf_length]; exact h) = bt a i := by
  have := bt_at a (i : Int) (by simpa using h)
  simp only [Int.toNat_natCast] at this
  rw [← this]
  simp [bytesOf]
  rfl
theorem text_bytes {a : ByteArray} (h : textB a = true) (x : Int) (hx : x ∈ bytesOf a) : x = 32 ∨ isL x = true := by
  obtain ⟨i, hi, rfl⟩ := List.getElem_of_mem hx
  have hi' : i < a.size := by rw [bytesOf_length] at hi; exact hi
  rw [bytesOf_at a i hi']
  unfold textB at h
  simp only [Bool.and_eq_true, List.all_eq_true, List.mem_range] at h
  have := h.1 i hi'
  unfold okAt at this
  by_cases hb : bt a i = 32
  · exact Or.inl hb
  · rw [if_neg hb] at this
    exact Or.inr this

theorem text_small {a : ByteArray} (h : textB a = true) : a.size ≤ 60 := by
  unfold textB at h
  simp only [Bool.and_eq_true, decide_eq_true_iff] at h
  omega

def sliceL (a : ByteArray) (s i : Nat) : List UInt8 := (a.data.toList.drop s).take (i - s)
theorem extract_slice (a : ByteArray) (s i : Nat) : a.extract s i = ⟨(sliceL a s i).toArray⟩ := by
  apply ByteArray.ext
  rw [ByteArray.data_extract]
  apply Array.toList_inj.1
  simp [sliceL, List.extract_eq_take_drop]
theorem sliceL_step (a : ByteArray) (s i : Nat) (hs : s ≤ i) (hi : i < a.size) : sliceL a s (i + 1) = sliceL a s i ++ [a[i]] := by
  unfold sliceL
  have hl : i - s < (a.data.toList.drop s).length := by rw [List.length_drop, data_length]; omega
  rw [show i + 1 - s = (i - s) + 1 by omega, List.take_succ_eq_append_getElem hl]
  congr 1
  simp [List.getElem_drop, show s + (i - s) = i by omega]
  rfl
theorem sliceL_len (a : ByteArray) (s i : Nat) (hs : s ≤ i) (hi : i ≤ a.size) : (sliceL a s i).length = i - s := by
  unfold sliceL
  rw [List.length_take, List.length_drop, data_length]
  omega
theorem byte_at (a : ByteArray) (i : Nat) (h : i < a.size) : bt a i = (a[i].toNat : Int) := by
  have := bt_at a (i : Int) (by simpa using h)
  simp only [Int.toNat_natCast] at this
  exact this.symm
theorem letter_sp (b : UInt8) (h : isL (b.toNat : Int) = true) : Lib.isSp b = false := by
  unfold isL at h
  simp only [Bool.and_eq_true, decide_eq_true_iff] at h
  unfold Lib.isSp
  have e : ∀ c : UInt8, c.toNat < 65 → (b == c) = false := fun c hc => by
    rw [beq_eq_false_iff_ne]
    rintro rfl
    omega
  rw [e 9 (by decide), e 10 (by decide), e 11 (by decide), e 12 (by decide), e 13 (by decide), e 32 (by decide)]
  rfl
def wordsF (a : ByteArray) : List ByteArray := (Lib.fields a.data.toList).map fun l => (⟨l.toArray⟩ : ByteArray)

theorem split_fields (a : ByteArray) (h : textB a = true) : ∀ d i s (acc : List ByteArray), i + d = a.size → s ≤ i → acc.length ≤ i → (s = i → i < a.size ∧ bt a i ≠ 32) →
    spec_l01Split.l0 (d + 1) a 32 acc (s : Nat) (i : Nat) = some (acc ++ (Lib.fieldsGo (sliceL a s i) (a.data.toList.drop i)).map fun l => (⟨l.toArray⟩ : ByteArray)) := by
  have hsm := text_small h
  have hok : ∀ i, i < a.size → okAt a i = true := by
    unfold textB at h
    simp only [Bool.and_eq_true, List.all_eq_true, List.mem_range] at h
    exact h.1
  intro d
  induction d with
  | zero =>
    intro i s acc hi hs hacc hst
    have hlt : s < i := by
      rcases Nat.lt_or_ge s i with h1 | h1
      · exact h1
      · have := (hst (by omega)).1; omega
    obtain rfl : i = a.size := by omega
    rw [spec_l01Split.l0, if_neg (by omega), if_pos (by omega), if_pos (by omega), if_pos (by omega), List.drop_of_length_le (by rw [data_length]; exact Nat.le_refl _), Int.toNat_natCast, extract_slice]
    have hne : (sliceL a s a.size).isEmpty = false := by
      rw [List.isEmpty_eq_false_iff, ← List.length_pos_iff, sliceL_len a s a.size (by omega) (Nat.le_refl _)]
      omega
    simp [Lib.fieldsGo, hne]
  | succ d ih =>
    intro i s acc hi hs hacc hst
    have hlt : i < a.size := by omega
    have hd : a.data.toList.drop i = a[i] :: a.data.toList.drop (i + 1) := by
      rw [List.drop_eq_getElem_cons (by rw [data_length]; exact hlt)]
      rfl
    have hb := byte_at a i hlt
    rw [spec_l01Split.l0, if_pos (by omega), if_pos (by omega), wrap_succ hlt (by omega), hd]
    by_cases c : bt a i = 32
    · have hlt2 : s < i := by
        rcases Nat.lt_or_ge s i with h1 | h1
        · exact h1
        · exact absurd c (hst (by omega)).2
      have hne : (sliceL a s i).isEmpty = false := by
        rw [List.isEmpty_eq_false_iff, ← List.length_pos_iff, sliceL_len a s i (by omega) (by omega)]
        omega
      have hsp : Lib.isSp a[i] = true := by
        have : a[i] = 32 := UInt8.toNat_inj.1 (by show a[i].toNat = 32; omega)
        rw [this]; rfl
      have h1 := hok i hlt
      unfold okAt at h1
      rw [if_pos c] at h1
      simp only [Bool.and_eq_true, Bool.not_eq_true', beq_eq_false_iff_ne] at h1
      have hlt3 : i + 1 < a.size := by omega
      have h2 := hok (i + 1) hlt3
      have hnext : bt a ((i + 1 : Nat) : Int) ≠ 32 := by
        intro e
        unfold okAt at h2
        rw [if_pos e] at h2
        simp [c] at h2
      rw [if_pos c, if_pos (by omega), if_pos (by omega), if_pos (by omega), if_pos (by omega), Int.toNat_natCast, Int.toNat_natCast, ih (i + 1) (i + 1) _ (by omega) (Nat.le_refl _) (by rw [List.length_append]; simp; omega) (fun _ => ⟨hlt3, hnext⟩)]
      have h0 : sliceL a (i + 1) (i + 1) = [] := by simp [sliceL]
      rw [Lib.fieldsGo, if_pos hsp, hne, h0, extract_slice]
      simp
    · have hl : isL (bt a i) = true := by
        have h1 := hok i hlt
        unfold okAt at h1
        rw [if_neg c] at h1
        exact h1
      rw [hb] at hl
      rw [if_neg c, ih (i + 1) s acc (by omega) (by omega) (by omega) (fun e => by omega), Lib.fieldsGo, letter_sp _ hl, sliceL_step a s i hs hlt]
      rfl

theorem spec_l01Words.val (a : ByteArray) (h : textB a = true) (k : Nat) (hk : 62 ≤ k) : spec_l01Words.f k a = some (wordsF a) := by
  have hsm := text_small h
  unfold spec_l01Words.f wordsF
  by_cases h0 : a.size = 0
  · have e : a.data.toList = [] := by rw [← List.length_eq_zero_iff, data_length]; exact h0
    rw [if_pos (by rw [ByteArray.toList_eq]; exact e), e]
    rfl
  · have e : ¬ a.toList = [] := by rw [ByteArray.toList_eq, ← List.length_eq_zero_iff, data_length]; exact h0
    rw [if_neg e]
    have hok : okAt a 0 = true := by
      unfold textB at h
      simp only [Bool.and_eq_true, List.all_eq_true, List.mem_range] at h
      exact h.1 0 (by omega)
    have h1 : bt a ((0 : Nat) : Int) ≠ 32 := by
      intro c
      unfold okAt at hok
      rw [if_pos c] at hok
      simp at hok
    have hsplit := split_fields a h a.size 0 0 [] (by omega) (Nat.le_refl _) (Nat.le_refl _) (fun _ => ⟨by omega, h1⟩)
    have hf : spec_l01Split.f (a.size + 1) a 32 = some ((Lib.fields a.data.toList).map fun l => (⟨l.toArray⟩ : ByteArray)) := by
      unfold spec_l01Split.f
      rw [List.nil_append, List.drop_zero] at hsplit
      exact hsplit
    rw [at_rounds (spec_l01Split.mono a 32) (by omega) hf]
    rfl
theorem fields_len (a : ByteArray) : (Lib.fields a.data.toList).length ≤ a.size + 1 := by
  have key : ∀ (l cur : List UInt8), (Lib.fieldsGo cur l).length ≤ l.length + 1 := by
    intro l
    induction l with
    | nil => intro cur; unfold Lib.fieldsGo; split <;> simp
    | cons b l ih =>
      intro cur
      unfold Lib.fieldsGo
      split
      · split
        · have := ih []; simp; omega
        · have := ih []; simp; omega
      · have := ih (cur ++ [b]); simp; omega
  have := key a.data.toList []
  rw [data_length] at this
  exact this
theorem strings_Fields.val (a : ByteArray) (h : textB a = true) : strings_Fields.f a = some (wordsF a) := by
  have hsm := text_small h
  have hfl := fields_len a
  unfold strings_Fields.f
  have hall : a.data.toList.all (fun b => decide (b.toNat < 128)) = true := by
    rw [List.all_eq_true]
    intro b hb
    obtain ⟨i, hi, rfl⟩ := List.getElem_of_mem hb
    have hi' : i < a.size := by rw [data_length] at hi; exact hi
    have hm : bt a i ∈ bytesOf a := by rw [← bytesOf_at a i hi']; exact List.getElem_mem _
    have hv := text_bytes h _ hm
    rw [byte_at a i hi'] at hv
    have he : a.data.toList[i] = a[i] := rfl
    rw [he]
    unfold isL at hv
    simp only [Bool.and_eq_true, decide_eq_true_iff] at hv ⊢
    omega
  rw [if_pos ⟨by omega, hall, by omega⟩]
  rfl
end Go.Proofs.YtiapaggkbhdnkaaDoor.Q
