/- Words joined by blanks; the words of a valid text are few and short. -/
import Derived.Test.YtiapaggkbhdnkaaDoorQpureFields
import Derived.Test.YtiapaggkbhdnkaaDoorQlibJ
import Derived.Test.YtiapaggkbhdnkaaDoorQspecl01Joined
namespace Go.Proofs.YtiapaggkbhdnkaaDoor.Q
open Go.RowKit Go.Proofs.YtiapaggkbhdnkaaDoorW.PrintWords Go.Proofs.YtiapaggkbhdnkaaDoorW.PrintLast Go.Proofs.YtiapaggkbhdnkaaDoorW.PrintMore
open Go.Proofs.YtiapaggkbhdnkaaDoor.Pure
set_option linter.unusedVariables false

def spB : ByteArray := ⟨#[32]⟩
theorem take_snoc {α : Type} (l : List α) (i : Nat) (h : i < l.length) : l.take (i + 1) = l.take i ++ [l[i]] := by
  rw [List.take_add_one, List.getElem?_eq_getElem h]; rfl
theorem joinSp_snoc (l : List ByteArray) (x : ByteArray) (h : l.length = 0) : joinB (l ++ [x]) spB = joinB l spB ++ x := by
  have : l = [] := List.length_eq_zero_iff.1 h
  subst this
  rw [List.nil_append, joinB_one, joinB_nil]
  exact (ByteArray.empty_append).symm
theorem joinSp_le (l : List ByteArray) (M : Nat) (h : ∀ x ∈ l, x.size ≤ M) : (joinB l spB).size ≤ l.length * (M + 1) := by
  have := joinB_size l spB M h (by decide)
  unfold joinB
  show ((Lib.join _ _).toArray).size ≤ _
  simpa using this
theorem spec_l01Joined.val (l : List ByteArray) (hf : joinFine l) (k : Nat) (hk : l.length < k) : spec_l01Joined.f k l = some (joinB l spB) := by
  have hl := hf.1
  have hsz : ∀ i, (joinB (l.take i) spB).size ≤ 1048576 * 1048577 := fun i => by
    have h1 := joinSp_le (l.take i) 1048576 (fun x hx => hf.2 x (List.mem_of_mem_take hx))
    have h2 : (l.take i).length ≤ 1048576 := by rw [List.length_take]; omega
    exact Nat.le_trans h1 (Nat.mul_le_mul_right _ h2)
  unfold spec_l01Joined.f
  have := scan_inv (n := l.length) (M := 0) (l := fun k i x => spec_l01Joined.l0 k l x i) (at_ := fun i => joinB (l.take i) spB) (r := joinB l spB) (fun k i hi _ => ?_) (fun k _ => ?_) k (by omega)
  · simpa [joinB_nil] using this
  · have hx := hf.2 l[i] (List.getElem_mem hi)
    have hs := hsz i
    have h1 : (l.take i).length = i := by simp; omega
    have h5 : (joinB (l.take i) spB ++ (⟨#[32]⟩ : ByteArray)).size = (joinB (l.take i) spB).size + 1 := by rw [ByteArray.size_append]; rfl
    simp only [spec_l01Joined.l0]
    rw [if_pos (by omega), rdOf_get _ _ _ hi, wrap_succ hi (by omega), take_snoc l i hi, h5]
    by_cases h0 : i = 0
    · rw [if_neg (by omega), if_pos (by omega), if_pos (by omega), joinSp_snoc _ _ (by omega)]
    · rw [if_pos (by omega), if_pos (by omega), if_pos (by omega), if_pos (by omega), joinB_snoc _ _ _ (by intro hn; rw [hn] at h1; simp at h1; omega)]
      rfl
  · simp only [spec_l01Joined.l0]
    rw [if_neg (by omega), List.take_length]

theorem words_size (a : ByteArray) (x : ByteArray) (h : x ∈ wordsF a) : x.size ≤ a.size := by
  have key : ∀ (l cur : List UInt8), ∀ y ∈ Lib.fieldsGo cur l, y.length ≤ cur.length + l.length := by
    intro l
    induction l with
    | nil =>
      intro cur y hy
      unfold Lib.fieldsGo at hy
      split at hy
      · cases hy
      · rw [List.mem_singleton.1 hy]; simp
    | cons b l ih =>
      intro cur y hy
      unfold Lib.fieldsGo at hy
      split at hy
      · split at hy
        · have := ih [] y hy; simp at this ⊢; omega
        · rcases List.mem_cons.1 hy with rfl | hy
          · simp
          · have := ih [] y hy; simp at this ⊢; omega
      · have := ih (cur ++ [b]) y hy; simp at this ⊢; omega
  unfold wordsF at h
  obtain ⟨y, hy, rfl⟩ := List.mem_map.1 h
  have := key a.data.toList [] y hy
  rw [data_length] at this
  simp only [List.length_nil, Nat.zero_add] at this
  show (y.toArray).size ≤ _
  simpa using this
theorem wordsF_small {a : ByteArray} (h : textB a = true) : (wordsF a).length ≤ 61 := by
  have := fields_len a
  have := text_small h
  unfold wordsF
  rw [List.length_map]
  omega
end Go.Proofs.YtiapaggkbhdnkaaDoor.Q
