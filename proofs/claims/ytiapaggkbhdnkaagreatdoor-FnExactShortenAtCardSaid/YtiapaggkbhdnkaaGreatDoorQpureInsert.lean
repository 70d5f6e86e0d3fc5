/- Insertion without repeats is sorting, then leaving out equal neighbours. -/
import Derived.Lib.SlicesCompact
namespace Go.Proofs.YtiapaggkbhdnkaaGreatDoor.Pure
open Go.Lib
set_option linter.unusedVariables false
set_option linter.unusedSimpArgs false

def posV (out : List Int) (v : Int) : Nat → Nat
  | 0 => 0
  | k + 1 => if v < out.getD k 0 then posV out v k else k + 1
def insV (out : List Int) (v : Int) : List Int := if 0 < posV out v out.length ∧ out.getD (posV out v out.length - 1) 0 = v then out else out.take (posV out v out.length) ++ [v] ++ out.drop (posV out v out.length)
theorem posV_le (out : List Int) (v : Int) : ∀ k, posV out v k ≤ k
  | 0 => Nat.le_refl _
  | k + 1 => by
    unfold posV
    have := posV_le out v k
    split <;> omega
theorem posV_hi (out : List Int) (v : Int) : ∀ k i, posV out v k ≤ i → i < k → v < out.getD i 0
  | 0, i, _, h => by omega
  | k + 1, i, h1, h2 => by
    unfold posV at h1
    split at h1
    · rename_i h
      by_cases e : i = k
      · subst e; exact h
      · exact posV_hi out v k i h1 (by omega)
    · omega
theorem posV_lo (out : List Int) (v : Int) : ∀ k, posV out v k = 0 ∨ out.getD (posV out v k - 1) 0 ≤ v
  | 0 => .inl rfl
  | k + 1 => by
    unfold posV
    split
    · exact posV_lo out v k
    · right
      simp only [Nat.add_sub_cancel]
      omega
theorem getD_lt {l : List Int} {i : Nat} (h : i < l.length) : l.getD i 0 = l[i] := by
  rw [List.getD_eq_getElem?_getD, List.getElem?_eq_getElem h]; rfl
theorem strict_le {l : List Int} (h : l.Pairwise (· < ·)) {i j : Nat} (hij : i ≤ j) (hj : j < l.length) : l.getD i 0 ≤ l.getD j 0 := by
  rw [getD_lt (by omega), getD_lt hj]
  by_cases e : i = j
  · subst e; exact Int.le_refl _
  · exact Int.le_of_lt (List.pairwise_iff_getElem.1 h i j (by omega) hj (by omega))
theorem insV_sorted {out : List Int} (v : Int) (h : out.Pairwise (· < ·)) : (insV out v).Pairwise (· < ·) := by
  unfold insV
  split
  · exact h
  · rename_i hn
    have h1 := posV_le out v out.length
    have h2 := posV_hi out v out.length
    have h3 := posV_lo out v out.length
    generalize posV out v out.length = p at *
    have hlo : ∀ a ∈ out.take p, a < v := by
      intro a ha
      obtain ⟨i, hi, rfl⟩ := List.mem_iff_getElem.1 ha
      rw [List.length_take] at hi
      rw [List.getElem_take, ← getD_lt (by omega)]
      have h4 := strict_le h (i := i) (j := p - 1) (by omega) (by omega)
      rcases h3 with h3 | h3
      · omega
      · have : out.getD (p - 1) 0 ≠ v := fun e => hn ⟨by omega, e⟩
        omega
    have hhi : ∀ b ∈ out.drop p, v < b := by
      intro b hb
      obtain ⟨i, hi, rfl⟩ := List.mem_iff_getElem.1 hb
      rw [List.length_drop] at hi
      rw [List.getElem_drop, ← getD_lt (by omega)]
      exact h2 _ (by omega) (by omega)
    rw [List.append_assoc]
    refine List.pairwise_append.2 ⟨List.Pairwise.sublist (List.take_sublist _ _) h, List.pairwise_cons.2 ⟨hhi, List.Pairwise.sublist (List.drop_sublist _ _) h⟩, ?_⟩
    intro a ha b hb
    rcases List.mem_cons.1 hb with e | hb
    · subst e; exact hlo a ha
    · exact Int.lt_trans (hlo a ha) (hhi b hb)
theorem insV_mem {out : List Int} {v x : Int} : x ∈ insV out v ↔ x ∈ out ∨ x = v := by
  unfold insV
  have h1 := posV_le out v out.length
  split
  · rename_i hp
    constructor
    · exact .inl
    · rintro (h | rfl)
      · exact h
      · have h2 := hp.2
        rw [getD_lt (by omega)] at h2
        conv => rw [← h2]
        exact List.getElem_mem _
  · generalize posV out v out.length = p at *
    conv => rhs; rw [← List.take_append_drop p out]
    simp only [List.mem_append, List.mem_singleton]
    constructor
    · rintro ((h | h) | h)
      · exact .inl (.inl h)
      · exact .inr h
      · exact .inl (.inr h)
    · rintro ((h | h) | h)
      · exact .inl (.inl h)
      · exact .inr h
      · exact .inl (.inr h)
theorem insV_len (out : List Int) (v : Int) : (insV out v).length ≤ out.length + 1 := by
  unfold insV
  split
  · omega
  · simp only [List.length_append, List.length_take, List.length_drop, List.length_singleton]
    omega
def insS (l : List Int) : List Int := l.foldl insV []
theorem insS_len_go (l : List Int) : ∀ out : List Int, (l.foldl insV out).length ≤ out.length + l.length := by
  induction l with
  | nil => intro out; simp
  | cons v l ih =>
    intro out
    have h1 := ih (insV out v)
    have h2 := insV_len out v
    simp only [List.foldl_cons, List.length_cons]
    omega
theorem insS_len (l : List Int) : (insS l).length ≤ l.length := by
  have := insS_len_go l []
  simpa [insS] using this
theorem insS_go (l : List Int) : ∀ out : List Int, out.Pairwise (· < ·) → (l.foldl insV out).Pairwise (· < ·) ∧ ∀ x, x ∈ l.foldl insV out ↔ x ∈ out ∨ x ∈ l := by
  induction l with
  | nil => intro out h; exact ⟨h, fun x => by simp⟩
  | cons v l ih =>
    intro out h
    obtain ⟨h1, h2⟩ := ih (insV out v) (insV_sorted v h)
    refine ⟨h1, fun x => ?_⟩
    rw [List.foldl_cons, h2, insV_mem, List.mem_cons]
    constructor
    · rintro ((h | h) | h)
      · exact .inl h
      · exact .inr (.inl h)
      · exact .inr (.inr h)
    · rintro (h | h | h)
      · exact .inl (.inl h)
      · exact .inl (.inr h)
      · exact .inr h
theorem strict_ext : ∀ (a b : List Int), a.Pairwise (· < ·) → b.Pairwise (· < ·) → (∀ x, x ∈ a ↔ x ∈ b) → a = b
  | [], [], _, _, _ => rfl
  | [], y :: ys, _, _, h => absurd ((h y).2 (List.mem_cons_self ..)) (by simp)
  | x :: xs, [], _, _, h => absurd ((h x).1 (List.mem_cons_self ..)) (by simp)
  | x :: xs, y :: ys, ha, hb, h => by
    have ha' := List.pairwise_cons.1 ha
    have hb' := List.pairwise_cons.1 hb
    have e : x = y := by
      have h1 := List.mem_cons.1 ((h x).1 (List.mem_cons_self ..))
      have h2 := List.mem_cons.1 ((h y).2 (List.mem_cons_self ..))
      rcases h1 with h1 | h1
      · exact h1
      · rcases h2 with h2 | h2
        · exact h2.symm
        · have := hb'.1 x h1
          have := ha'.1 y h2
          omega
    subst e
    rw [strict_ext xs ys ha'.2 hb'.2 (fun z => ⟨fun hz => by
      rcases List.mem_cons.1 ((h z).1 (List.mem_cons_of_mem _ hz)) with e | h1
      · have := ha'.1 z hz; omega
      · exact h1, fun hz => by
      rcases List.mem_cons.1 ((h z).2 (List.mem_cons_of_mem _ hz)) with e | h1
      · have := hb'.1 z hz; omega
      · exact h1⟩)]
theorem compactUp_asc (d : Array Int) (hs : ∀ i j, i ≤ j → j < d.size → d[i]! ≤ d[j]!) : ∀ m, m ≤ d.size → (compactUpTo d m).Pairwise (· < ·) ∧ (∀ x ∈ compactUpTo d m, ∃ j, j < m ∧ x = d[j]!) ∧ (∀ j, j < m → d[j]! ∈ compactUpTo d m)
  | 0, _ => by
    have : compactUpTo d 0 = [] := rfl
    rw [this]
    exact ⟨List.Pairwise.nil, fun x hx => by simp at hx, fun j hj => by omega⟩
  | m + 1, h => by
    obtain ⟨h1, h2, h3⟩ := compactUp_asc d hs m (by omega)
    rw [compactUpTo_succ]
    by_cases hk : keeps d m = true
    · rw [if_pos hk]
      have hlt : ∀ x ∈ compactUpTo d m, x < d[m]! := by
        intro x hx
        obtain ⟨j, hj, rfl⟩ := h2 x hx
        have hm : m ≠ 0 := by omega
        have hne : d[m]! ≠ d[m - 1]! := by
          unfold keeps at hk
          rcases of_decide_eq_true hk with e | e
          · omega
          · exact e
        have a1 := hs j (m - 1) (by omega) (by omega)
        have a2 := hs (m - 1) m (by omega) (by omega)
        omega
      refine ⟨List.pairwise_append.2 ⟨h1, List.pairwise_singleton .., fun a ha b hb => by rw [List.mem_singleton.1 hb]; exact hlt a ha⟩, fun x hx => ?_, fun j hj => ?_⟩
      · rcases List.mem_append.1 hx with hx | hx
        · obtain ⟨j, hj, e⟩ := h2 x hx
          exact ⟨j, by omega, e⟩
        · exact ⟨m, by omega, List.mem_singleton.1 hx⟩
      · by_cases e : j = m
        · subst e; exact List.mem_append_right _ (List.mem_singleton.2 rfl)
        · exact List.mem_append_left _ (h3 j (by omega))
    · rw [if_neg hk, List.append_nil]
      refine ⟨h1, fun x hx => ?_, fun j hj => ?_⟩
      · obtain ⟨j, hj, e⟩ := h2 x hx
        exact ⟨j, by omega, e⟩
      · by_cases e : j = m
        · subst e
          unfold keeps at hk
          have hm : ¬ (j = 0 ∨ d[j]! ≠ d[j - 1]!) := fun h => hk (decide_eq_true h)
          have hm0 : j ≠ 0 := fun e => hm (.inl e)
          have hm1 : d[j]! = d[j - 1]! := Decidable.byContradiction fun e => hm (.inr e)
          rw [hm1]
          exact h3 _ (by omega)
        · exact h3 j (by omega)
theorem insS_compact (l : List Int) : insS l = compact (l.mergeSort fun x y => decide (x ≤ y)) := by
  have hp : (l.mergeSort fun x y => decide (x ≤ y)).Perm l := List.mergeSort_perm _ _
  have hs : (l.mergeSort fun x y => decide (x ≤ y)).Pairwise (fun a b => decide (a ≤ b) = true) := List.pairwise_mergeSort (fun a b c h1 h2 => by simp only [decide_eq_true_eq] at *; omega) (fun a b => by simp only [Bool.or_eq_true, decide_eq_true_eq]; omega) l
  generalize l.mergeSort (fun x y => decide (x ≤ y)) = s at hp hs
  obtain ⟨h1, h2⟩ := insS_go l [] List.Pairwise.nil
  obtain ⟨c1, c2, c3⟩ := compactUp_asc s.toArray (fun i j hij hj => by
    have hj' : j < s.length := by simpa using hj
    have hi' : i < s.length := by omega
    rw [getElem!_pos s.toArray i (by simpa using hi'), getElem!_pos s.toArray j (by simpa using hj')]
    simp only [List.getElem_toArray]
    by_cases e : i = j
    · subst e; exact Int.le_refl _
    · exact of_decide_eq_true (List.pairwise_iff_getElem.1 hs i j hi' hj' (by omega))) s.length (by simp)
  refine strict_ext _ _ h1 c1 (fun x => ?_)
  unfold insS at *
  rw [h2 x]
  constructor
  · rintro (h | h)
    · simp at h
    · obtain ⟨i, hi, rfl⟩ := List.mem_iff_getElem.1 (hp.mem_iff.2 h)
      have h9 := c3 i hi
      rw [getElem!_pos s.toArray i (by simpa using hi), List.getElem_toArray] at h9
      exact h9
  · intro h
    obtain ⟨j, hj, rfl⟩ := c2 x h
    right
    rw [getElem!_pos s.toArray j (by simpa using hj)]
    simp only [List.getElem_toArray]
    exact hp.mem_iff.1 (List.getElem_mem _)
end Go.Proofs.YtiapaggkbhdnkaaGreatDoor.Pure
