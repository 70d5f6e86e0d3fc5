/- A text without its blanks: strings.ReplaceAll(text, " ", ""). -/
import Derived.Test.YtnhepjgnddbhjaaDoorQpureText
import Derived.Test.YtnhepjgnddbhjaaDoorPure2
import Derived.Test.YtnhepjgnddbhjaaDoorQimpllettersOf
import Derived.Lib.Replace
namespace Go.Proofs.YtnhepjgnddbhjaaDoor.Q
open Go.RowKit Go.Proofs.YtnhepjgnddbhjaaDoorW.PrintWords Go.Proofs.YtnhepjgnddbhjaaDoorW.PrintLast Go.Proofs.YtnhepjgnddbhjaaDoorW.PrintMore
open Go.Proofs.YtnhepjgnddbhjaaDoor.Pure
set_option linter.unusedVariables false

theorem occ_one (l : List UInt8) (c : UInt8) (i : Nat) : Lib.occAt l [c] i = true ↔ l[i]? = some c := by
  unfold Lib.occAt
  have e0 : (l.drop i)[0]? = l[i]? := by rw [List.getElem?_drop]; rfl
  rw [← e0]
  rcases l.drop i with _ | ⟨x, t⟩
  · simp [List.isPrefixOf]
  · simp only [List.isPrefixOf, Bool.and_true, beq_iff_eq, List.getElem?_cons_zero, Option.some.injEq]
    exact ⟨fun h => h.symm, fun h => h.symm⟩
theorem filter_none (l : List UInt8) (c : UInt8) (h : ∀ i : Nat, l[i]? ≠ some c) : l.filter (fun x => x != c) = l := by
  rw [List.filter_eq_self]
  intro x hx
  obtain ⟨i, hi⟩ := List.getElem?_of_mem hx
  have := h i
  rw [hi] at this
  simpa using this
theorem replace_one (c : UInt8) : ∀ (fuel : Nat) (s : List UInt8), s.length < fuel → Lib.replaceK [c] [] (Lib.countFrom [c] fuel s) s = s.filter (fun x => x != c) := by
  intro fuel
  induction fuel with
  | zero => intro s h; omega
  | succ fuel ih =>
    intro s h
    rcases Lib.index_spec s [c] with ⟨hi, hn⟩ | ⟨i, hi, hle, ho, hno⟩
    · rw [Lib.countFrom, if_pos (by rw [hi]; rfl), Lib.replaceK, filter_none]
      intro i e
      have hlt : i < s.length := (List.getElem?_eq_some_iff.1 e).1
      have := hn i (by omega)
      rw [(occ_one s c i).2 e] at this
      cases this
    · have hne : ¬ (Lib.index s [c] == -1) = true := by rw [hi]; intro e; have := beq_iff_eq.1 e; omega
      have hc := (occ_one s c i).1 ho
      have hlt : i < s.length := (List.getElem?_eq_some_iff.1 hc).1
      have ht : (Lib.index s [c]).toNat = i := by rw [hi]; rfl
      rw [Lib.countFrom, if_neg hne, ht, Nat.add_comm, Lib.replaceK_hit [c] [] _ s i hi]
      have hd : (s.drop (i + 1)).length < fuel := by rw [List.length_drop]; omega
      show s.take i ++ [] ++ Lib.replaceK [c] [] (Lib.countFrom [c] fuel (s.drop (i + 1))) (s.drop (i + 1)) = _
      rw [ih _ hd]
      have hs : s = s.take i ++ c :: s.drop (i + 1) := by
        have e1 : s.drop i = s[i] :: s.drop (i + 1) := List.drop_eq_getElem_cons hlt
        have e2 : s[i] = c := by have := (List.getElem?_eq_some_iff.1 hc).2; exact this
        rw [← e2, ← e1, List.take_append_drop]
      have hf : (s.take i).filter (fun x => x != c) = s.take i := filter_none _ _ fun j e => by
        have hj : j < i := by have := (List.getElem?_eq_some_iff.1 e).1; rw [List.length_take] at this; omega
        rw [List.getElem?_take_of_lt hj] at e
        have := hno j hj
        rw [(occ_one s c j).2 e] at this
        cases this
      conv => rhs; rw [hs]
      rw [List.filter_append, hf, List.filter_cons_of_neg (by simp), List.append_nil]
theorem replaceAll_one (s : List UInt8) (c : UInt8) : Lib.replaceAll s [c] [] = s.filter (fun x => x != c) := by
  unfold Lib.replaceAll Lib.replace Lib.replaceNum Lib.count
  rw [if_neg (by simp), if_pos (Or.inl (by decide))]
  exact replace_one c _ s (by omega)
/-- A text without its blanks. -/
def strip (a : ByteArray) : ByteArray := ⟨(a.data.toList.filter fun x => x != 32).toArray⟩
theorem strip_size (a : ByteArray) : (strip a).size ≤ a.size := by
  have h := List.length_filter_le (fun x : UInt8 => x != 32) a.data.toList
  rw [data_length] at h
  exact h
theorem impl_lettersOf.val (a : ByteArray) (ha : a.size < 4294967281) : impl_lettersOf.f a = some (strip a) := by
  unfold impl_lettersOf.f strings_ReplaceAll.f
  rw [if_pos ⟨ha, by decide, by show a.size + _ * 0 ≤ _; omega⟩]
  show (some _).bind _ = _
  rw [show Lib.replaceAll a.data.toList [32] [] = a.data.toList.filter (fun x => x != 32) from replaceAll_one _ _] 
  rfl
theorem bytesOf_strip (a : ByteArray) : bytesOf (strip a) = (bytesOf a).filter (fun x => x != 32) := by
  unfold bytesOf strip
  simp only [List.filter_map]
  congr 1
  refine List.filter_congr fun x _ => ?_
  rw [Bool.eq_iff_iff]
  simp only [bne_iff_ne, ne_eq, Function.comp]
  refine not_congr ⟨fun h => by rw [h]; rfl, fun h => ?_⟩
  have : x.toNat = (32 : UInt8).toNat := by show x.toNat = 32; omega
  exact UInt8.toNat_inj.1 this
theorem bytesOf_at (a : ByteArray) (i : Nat) (h : i < a.size) : (bytesOf a)[i]'(by rw [bytesOf_length]; exact h) = bt a i := by
  have := bt_at a (i : Int) (by simpa using h)
  simp only [Int.toNat_natCast] at this
  rw [← this]
  simp [bytesOf]
  rfl
theorem text_bytes {a : ByteArray} (h : textB a = true) (x : Int) (hx : x ∈ bytesOf a) : x = 32 ∨ isL x = true := by
  obtain ⟨i, hi, rfl⟩ := List.getElem_of_mem hx
  have hi' : i < a.size := by rw [bytesOf_length] at hi; exact hi
  rw [bytesOf_at a i hi']
  unfold textB at h
  simp only [Bool.and_eq_true, List.all_eq_true, List.mem_range] at h
  have := h.1 i hi'
  unfold okAt at this
  by_cases hb : bt a i = 32
  · exact Or.inl hb
  · rw [if_neg hb] at this
    exact Or.inr this
theorem strip_letter {a : ByteArray} (h : textB a = true) (k : Nat) (hk : k < (strip a).size) : isL (bt (strip a) k) = true := by
  have hm : bt (strip a) k ∈ bytesOf (strip a) := by rw [← bytesOf_at _ _ hk]; exact List.getElem_mem _
  rw [bytesOf_strip] at hm
  obtain ⟨h1, h2⟩ := List.mem_filter.1 hm
  rcases text_bytes h _ h1 with e | e
  · rw [e] at h2
    exact absurd h2 (by decide)
  · exact e
theorem text_small {a : ByteArray} (h : textB a = true) : a.size ≤ 60 := by
  unfold textB at h
  simp only [Bool.and_eq_true, decide_eq_true_iff] at h
  omega
end Go.Proofs.YtnhepjgnddbhjaaDoor.Q
