/- Insertion of texts without repeats is sorting, then leaving out equal neighbours. -/
import Derived.Test.YtiapaggkbhdnkaaDoorQlibSortT
import Derived.Test.YtiapaggkbhdnkaaDoorBase
import Derived.Sort.Walk0
namespace Go.Proofs.YtiapaggkbhdnkaaDoor.Q
open Go.RowKit Go.Lib
set_option linter.unusedVariables false
set_option linter.unusedSimpArgs false

abbrev Bs := List UInt8
def insR (v : Bs) : List Bs → List Bs
  | [] => [v]
  | y :: ys => if y < v then y :: insR v ys else if y = v then y :: ys else v :: y :: ys
theorem lt_of_not {a b : Bs} (h : ¬ a < b) (hn : a ≠ b) : b < a := by
  apply Decidable.byContradiction
  intro h2
  exact hn (List.le_antisymm (List.not_lt.1 h2) (List.not_lt.1 h))
theorem insR_mem (v x : Bs) : ∀ l : List Bs, x ∈ insR v l ↔ x ∈ l ∨ x = v
  | [] => by simp [insR]
  | y :: ys => by
    unfold insR
    split
    · rw [List.mem_cons, insR_mem v x ys, List.mem_cons]
      constructor
      · rintro (h | h | h)
        · exact .inl (.inl h)
        · exact .inl (.inr h)
        · exact .inr h
      · rintro ((h | h) | h)
        · exact .inl h
        · exact .inr (.inl h)
        · exact .inr (.inr h)
    · split
      · rename_i h
        subst h
        constructor
        · exact .inl
        · rintro (h | rfl)
          · exact h
          · exact List.mem_cons_self ..
      · rw [List.mem_cons]
        constructor
        · rintro (h | h)
          · exact .inr h
          · exact .inl h
        · rintro (h | h)
          · exact .inr h
          · exact .inl h
theorem insR_sorted (v : Bs) : ∀ l : List Bs, l.Pairwise (· < ·) → (insR v l).Pairwise (· < ·)
  | [], _ => List.pairwise_singleton ..
  | y :: ys, h => by
    obtain ⟨h1, h2⟩ := List.pairwise_cons.1 h
    unfold insR
    split
    · rename_i hy
      refine List.pairwise_cons.2 ⟨fun z hz => ?_, insR_sorted v ys h2⟩
      rcases (insR_mem v z ys).1 hz with hz | rfl
      · exact h1 z hz
      · exact hy
    · rename_i hy
      split
      · exact h
      · rename_i hne
        have hlt := lt_of_not hy hne
        refine List.pairwise_cons.2 ⟨fun z hz => ?_, h⟩
        rcases List.mem_cons.1 hz with rfl | hz
        · exact hlt
        · exact List.lt_trans hlt (h1 z hz)
theorem insR_len (v : Bs) : ∀ l : List Bs, (insR v l).length ≤ l.length + 1
  | [] => by simp [insR]
  | y :: ys => by
    have := insR_len v ys
    unfold insR
    split
    · simp only [List.length_cons]; omega
    · split <;> simp only [List.length_cons] <;> omega
def insAll (l : List Bs) : List Bs := l.foldl (fun o v => insR v o) []
theorem insAll_go (l : List Bs) : ∀ out : List Bs, out.Pairwise (· < ·) → (l.foldl (fun o v => insR v o) out).Pairwise (· < ·) ∧ ∀ x, x ∈ l.foldl (fun o v => insR v o) out ↔ x ∈ out ∨ x ∈ l := by
  induction l with
  | nil => intro out h; exact ⟨h, fun x => by simp⟩
  | cons v l ih =>
    intro out h
    obtain ⟨h1, h2⟩ := ih (insR v out) (insR_sorted v out h)
    refine ⟨h1, fun x => ?_⟩
    rw [List.foldl_cons, h2, insR_mem, List.mem_cons]
    constructor
    · rintro ((h | h) | h)
      · exact .inl h
      · exact .inr (.inl h)
      · exact .inr (.inr h)
    · rintro (h | h | h)
      · exact .inl (.inl h)
      · exact .inl (.inr h)
      · exact .inr h
theorem strictB_ext : ∀ (a b : List Bs), a.Pairwise (· < ·) → b.Pairwise (· < ·) → (∀ x, x ∈ a ↔ x ∈ b) → a = b
  | [], [], _, _, _ => rfl
  | [], y :: ys, _, _, h => absurd ((h y).2 (List.mem_cons_self ..)) (by simp)
  | x :: xs, [], _, _, h => absurd ((h x).1 (List.mem_cons_self ..)) (by simp)
  | x :: xs, y :: ys, ha, hb, h => by
    have ha' := List.pairwise_cons.1 ha
    have hb' := List.pairwise_cons.1 hb
    have e : x = y := by
      have h1 := List.mem_cons.1 ((h x).1 (List.mem_cons_self ..))
      have h2 := List.mem_cons.1 ((h y).2 (List.mem_cons_self ..))
      rcases h1 with h1 | h1
      · exact h1
      · rcases h2 with h2 | h2
        · exact h2.symm
        · exact absurd (List.lt_trans (hb'.1 x h1) (ha'.1 y h2)) (List.lt_irrefl _)
    subst e
    rw [strictB_ext xs ys ha'.2 hb'.2 (fun z => ⟨fun hz => by
      rcases List.mem_cons.1 ((h z).1 (List.mem_cons_of_mem _ hz)) with e | h1
      · subst e; exact absurd (ha'.1 z hz) (List.lt_irrefl _)
      · exact h1, fun hz => by
      rcases List.mem_cons.1 ((h z).2 (List.mem_cons_of_mem _ hz)) with e | h1
      · subst e; exact absurd (hb'.1 z hz) (List.lt_irrefl _)
      · exact h1⟩)]
theorem compactUpB (d : Array Bs) (hs : ∀ i j, i ≤ j → j < d.size → d[i]! ≤ d[j]!) : ∀ m, m ≤ d.size → (compactUpTo d m).Pairwise (· < ·) ∧ (∀ x ∈ compactUpTo d m, ∃ j, j < m ∧ x = d[j]!) ∧ (∀ j, j < m → d[j]! ∈ compactUpTo d m)
  | 0, _ => by
    have : compactUpTo d 0 = [] := rfl
    rw [this]
    exact ⟨List.Pairwise.nil, fun x hx => by simp at hx, fun j hj => by omega⟩
  | m + 1, h => by
    obtain ⟨h1, h2, h3⟩ := compactUpB d hs m (by omega)
    rw [compactUpTo_succ]
    by_cases hk : keeps d m = true
    · rw [if_pos hk]
      have hlt : ∀ x ∈ compactUpTo d m, x < d[m]! := by
        intro x hx
        obtain ⟨j, hj, rfl⟩ := h2 x hx
        have hm : m ≠ 0 := by omega
        have hne : d[m]! ≠ d[m - 1]! := by
          unfold keeps at hk
          rcases of_decide_eq_true hk with e | e
          · omega
          · exact e
        have a1 := hs j (m - 1) (by omega) (by omega)
        have a2 := hs (m - 1) m (by omega) (by omega)
        exact List.lt_of_le_of_lt a1 (lt_of_not (List.not_lt.2 a2) hne)
      refine ⟨List.pairwise_append.2 ⟨h1, List.pairwise_singleton .., fun a ha b hb => by rw [List.mem_singleton.1 hb]; exact hlt a ha⟩, fun x hx => ?_, fun j hj => ?_⟩
      · rcases List.mem_append.1 hx with hx | hx
        · obtain ⟨j, hj, e⟩ := h2 x hx
          exact ⟨j, by omega, e⟩
        · exact ⟨m, by omega, List.mem_singleton.1 hx⟩
      · by_cases e : j = m
        · subst e; exact List.mem_append_right _ (List.mem_singleton.2 rfl)
        · exact List.mem_append_left _ (h3 j (by omega))
    · rw [if_neg hk, List.append_nil]
      refine ⟨h1, fun x hx => ?_, fun j hj => ?_⟩
      · obtain ⟨j, hj, e⟩ := h2 x hx
        exact ⟨j, by omega, e⟩
      · by_cases e : j = m
        · subst e
          unfold keeps at hk
          have hm : ¬ (j = 0 ∨ d[j]! ≠ d[j - 1]!) := fun h => hk (decide_eq_true h)
          have hm0 : j ≠ 0 := fun e => hm (.inl e)
          have hm1 : d[j]! = d[j - 1]! := Decidable.byContradiction fun e => hm (.inr e)
          rw [hm1]
          exact h3 _ (by omega)
        · exact h3 j (by omega)
theorem insAll_compact (l : List Bs) : insAll l = compact (l.mergeSort fun x y => decide (x ≤ y)) := by
  have hp : (l.mergeSort fun x y => decide (x ≤ y)).Perm l := List.mergeSort_perm _ _
  have hs : (l.mergeSort fun x y => decide (x ≤ y)).Pairwise (fun a b => decide (a ≤ b) = true) := List.pairwise_mergeSort (fun a b c h1 h2 => by simp only [decide_eq_true_eq] at *; exact List.le_trans h1 h2) (fun a b => by simp only [Bool.or_eq_true, decide_eq_true_eq]; exact List.le_total a b) l
  generalize l.mergeSort (fun x y => decide (x ≤ y)) = s at hp hs
  obtain ⟨h1, h2⟩ := insAll_go l [] List.Pairwise.nil
  obtain ⟨c1, c2, c3⟩ := compactUpB s.toArray (fun i j hij hj => by
    have hj' : j < s.length := by simpa using hj
    have hi' : i < s.length := by omega
    rw [getElem!_pos s.toArray i (by simpa using hi'), getElem!_pos s.toArray j (by simpa using hj')]
    simp only [List.getElem_toArray]
    by_cases e : i = j
    · subst e; exact List.le_refl _
    · exact of_decide_eq_true (List.pairwise_iff_getElem.1 hs i j hi' hj' (by omega))) s.length (by simp)
  refine strictB_ext _ _ h1 c1 (fun x => ?_)
  unfold insAll at *
  rw [h2 x]
  constructor
  · rintro (h | h)
    · simp at h
    · obtain ⟨i, hi, rfl⟩ := List.mem_iff_getElem.1 (hp.mem_iff.2 h)
      have h9 := c3 i hi
      rw [getElem!_pos s.toArray i (by simpa using hi), List.getElem_toArray] at h9
      exact h9
  · intro h
    obtain ⟨j, hj, rfl⟩ := c2 x h
    right
    rw [getElem!_pos s.toArray j (by simpa using hj)]
    simp only [List.getElem_toArray]
    exact hp.mem_iff.1 (List.getElem_mem _)
theorem bytesL_of (l : List Bs) : bytesL (ofL2 l) = l := by
  unfold bytesL ofL2
  rw [List.map_map]
  conv => rhs; rw [← List.map_id l]
  rfl
theorem ofL2_bytes (l : List ByteArray) : ofL2 (bytesL l) = l := by
  unfold bytesL ofL2
  rw [List.map_map]
  conv => rhs; rw [← List.map_id l]
  rfl
theorem sorted_ins (l : List ByteArray) : compactB (sortB l) = ofL2 (insAll (bytesL l)) := by
  unfold compactB sortB
  rw [insAll_compact]
  congr 2
  exact bytesL_of _
/-- One text put into its place. -/
def insT (v : ByteArray) (l : List ByteArray) : List ByteArray := ofL2 (insR v.data.toList (bytesL l))
theorem insT_nil (v : ByteArray) : insT v [] = [v] := by
  unfold insT bytesL insR ofL2
  rfl
theorem data_inj {a b : ByteArray} : a.data.toList = b.data.toList ↔ a = b := by
  constructor
  · intro h
    have h2 : a.data = b.data := Array.toList_inj.1 h
    cases a; cases b; simp only at h2; rw [h2]
  · rintro rfl; rfl
theorem insT_cons (v y : ByteArray) (ys : List ByteArray) : insT v (y :: ys) = if Op.bytesLess y.toList v.toList = true then y :: insT v ys else if y.toList = v.toList then y :: ys else v :: y :: ys := by
  have e1 : y.toList = y.data.toList := ByteArray.toList_eq y
  have e2 : v.toList = v.data.toList := ByteArray.toList_eq v
  rw [e1, e2]
  unfold insT
  have : bytesL (y :: ys) = y.data.toList :: bytesL ys := rfl
  rw [this, insR, Go.Proofs.bytesLess_eq]
  simp only [decide_eq_true_eq]
  split
  · show _ :: ofL2 _ = _
    rfl
  · split
    · show _ :: ofL2 (bytesL ys) = _
      rw [ofL2_bytes]
    · show _ :: _ :: ofL2 (bytesL ys) = _
      rw [ofL2_bytes]
theorem insT_len (v : ByteArray) (l : List ByteArray) : (insT v l).length ≤ l.length + 1 := by
  have := insR_len v.data.toList (bytesL l)
  rw [bytesL_len] at this
  unfold insT ofL2
  rw [List.length_map]
  exact this
theorem ins_fold (l : List ByteArray) : ∀ o : List Bs, ofL2 ((bytesL l).foldl (fun o v => insR v o) o) = l.foldl (fun o v => insT v o) (ofL2 o) := by
  induction l with
  | nil => intro o; rfl
  | cons v l ih =>
    intro o
    have : bytesL (v :: l) = v.data.toList :: bytesL l := rfl
    rw [this, List.foldl_cons, List.foldl_cons, ih]
    unfold insT
    rw [bytesL_of]
theorem sorted_insT (l : List ByteArray) : compactB (sortB l) = l.foldl (fun o v => insT v o) [] := by
  rw [sorted_ins]
  unfold insAll
  rw [ins_fold]
  rfl
end Go.Proofs.YtiapaggkbhdnkaaDoor.Q
