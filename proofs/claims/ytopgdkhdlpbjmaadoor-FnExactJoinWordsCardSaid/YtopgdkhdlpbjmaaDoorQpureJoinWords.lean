/- spec.JoinWords answers as the program does; the law JoinWords holds. -/
import Derived.Test.YtopgdkhdlpbjmaaDoorQhandJoinWords
import Derived.Test.YtopgdkhdlpbjmaaDoorQspecJoinWords
import Derived.Test.YtopgdkhdlpbjmaaDoorQspecl01Joined
import Derived.Test.YtopgdkhdlpbjmaaDoorQlawsFnExactJoinWords
import Derived.Test.YtopgdkhdlpbjmaaDoorQpureLaw
namespace Go.Proofs.YtopgdkhdlpbjmaaDoor.Q
open Go.RowKit Go.Proofs.YtopgdkhdlpbjmaaDoorW.PrintWords Go.Proofs.YtopgdkhdlpbjmaaDoorW.PrintLast Go.Proofs.YtopgdkhdlpbjmaaDoorW.PrintMore
open Go.Proofs.YtopgdkhdlpbjmaaDoor.Pure
set_option linter.unusedVariables false

theorem joinB_len (l : List ByteArray) (M : Nat) (h : ∀ x ∈ l, x.size ≤ M) : (joinB l blank).size ≤ l.length * (M + 1) := by
  have := joinB_size l blank M h (by decide)
  exact this
theorem take_ne (l : List ByteArray) (n : Nat) (h : n ≤ l.length) (h0 : n ≠ 0) : l.take n ≠ [] := fun e => by
  have := congrArg List.length e
  rw [List.length_take, List.length_nil] at this
  omega
theorem joinB_ge (l : List ByteArray) : ∀ x ∈ l, x.size ≤ (joinB l blank).size := by
  intro x hx
  obtain ⟨i, hi, rfl⟩ := List.getElem_of_mem hx
  have key : ∀ n, n ≤ l.length → ∀ j (hj : j < n) (hj2 : j < l.length), l[j].size ≤ (joinB (l.take n) blank).size := by
    intro n
    induction n with
    | zero => intro _ j hj; omega
    | succ n ih =>
      intro hn j hj hj2
      rw [List.take_succ_eq_append_getElem (by omega)]
      by_cases h0 : n = 0
      · subst h0
        obtain rfl : j = 0 := by omega
        rw [List.take_zero, List.nil_append, joinB_one]
        exact Nat.le_refl _
      · rw [joinB_snoc _ _ _ (take_ne _ _ (by omega) h0), ByteArray.size_append, ByteArray.size_append]
        by_cases hjn : j = n
        · subst hjn; omega
        · have := ih (by omega) j (by omega) hj2; omega
  have := key l.length (Nat.le_refl _) i hi hi
  rwa [List.take_of_length_le (Nat.le_refl _)] at this
theorem joinB_count (l : List ByteArray) (h : ∀ x ∈ l, 0 < x.size) : l.length ≤ (joinB l blank).size := by
  have key : ∀ n, n ≤ l.length → n ≤ (joinB (l.take n) blank).size := by
    intro n
    induction n with
    | zero => intro _; exact Nat.zero_le _
    | succ n ih =>
      intro hn
      rw [List.take_succ_eq_append_getElem (by omega)]
      have hp := h l[n] (List.getElem_mem _)
      by_cases h0 : n = 0
      · subst h0
        rw [List.take_zero, List.nil_append, joinB_one]
        exact hp
      · rw [joinB_snoc _ _ _ (take_ne _ _ (by omega) h0), ByteArray.size_append, ByteArray.size_append]
        have := ih (by omega)
        omega
  have := key l.length (Nat.le_refl _)
  rwa [List.take_of_length_le (Nat.le_refl _)] at this

theorem spec_l01Joined.val (l : List ByteArray) (hf : joinFine l) (k : Nat) (hk : l.length < k) : spec_l01Joined.f k l = some (joinB l blank) := by
  have hsz : ∀ i, (joinB (l.take i) blank).size ≤ 1048576 * 1048577 := fun i => by
    have h1 := joinB_len (l.take i) 1048576 (fun x hx => hf.2 x (List.mem_of_mem_take hx))
    have h2 : (l.take i).length ≤ 1048576 := by rw [List.length_take]; have := hf.1; omega
    exact Nat.le_trans h1 (Nat.mul_le_mul_right _ h2)
  unfold spec_l01Joined.f
  have := scan_inv (n := l.length) (M := 0) (l := fun k i x => spec_l01Joined.l0 k l x i) (at_ := fun i => joinB (l.take i) blank) (r := joinB l blank) (fun k i hi _ => ?_) (fun k _ => ?_) k (by omega)
  · exact this
  · have hx := hf.2 l[i] (List.getElem_mem hi)
    have hs := hsz i
    simp only [spec_l01Joined.l0]
    rw [if_pos (by omega), rdOf_get _ _ _ hi, wrap_succ hi (by have := hf.1; omega)]
    have hb : (⟨#[32]⟩ : ByteArray) = blank := rfl
    rw [hb, List.take_succ_eq_append_getElem hi]
    have hone : blank.size = 1 := rfl
    by_cases h0 : i = 0
    · subst h0
      rw [if_neg (by omega), if_pos (by omega), if_pos (by omega), List.take_zero, List.nil_append, joinB_one, joinB_nil]
      congr 1
    · rw [if_pos (by omega), if_pos (by omega), if_pos (by omega), if_pos (by rw [ByteArray.size_append]; omega), joinB_snoc _ _ _ (take_ne _ _ (by omega) h0)]
  · simp [spec_l01Joined.l0]

theorem word_small {l : List ByteArray} (hw : l.all wordB = true) (ht : textB (joinB l blank) = true) : l.all word60 = true := by
  have h60 : (joinB l blank).size ≤ 60 := by
    unfold textB at ht
    simp only [Bool.and_eq_true, decide_eq_true_iff] at ht
    omega
  rw [List.all_eq_true] at hw ⊢
  intro x hx
  have := joinB_ge l x hx
  unfold word60
  rw [hw x hx, decide_eq_true (by omega)]
  rfl
theorem all_word {l : List ByteArray} (h : l.all word60 = true) : l.all wordB = true := by
  rw [List.all_eq_true] at h ⊢
  intro x hx
  have := h x hx
  unfold word60 at this
  simp only [Bool.and_eq_true] at this
  exact this.1
theorem word_pos {x : ByteArray} (h : wordB x = true) : 0 < x.size := by
  unfold wordB at h
  simp only [Bool.and_eq_true, decide_eq_true_iff] at h
  exact h.2
theorem joinM_long {l : List ByteArray} (hl : 61 < l.length) : joinM l = (⟨#[]⟩, 1) := by
  unfold joinM
  by_cases ht : textB (joinB l blank) = true
  · rw [if_pos ht]
    by_cases ha : l.all word60 = true
    · have h60 : (joinB l blank).size ≤ 60 := by
        unfold textB at ht
        simp only [Bool.and_eq_true, decide_eq_true_iff] at ht
        omega
      have := joinB_count l (fun x hx => word_pos (List.all_eq_true.1 (all_word ha) x hx))
      omega
    · rw [if_neg ha]
  · rw [if_neg ht]
theorem joinM_bad {l : List ByteArray} (h : l.all wordB = false) : joinM l = (⟨#[]⟩, 1) := by
  unfold joinM
  split
  · rw [if_neg (fun ha => by rw [all_word ha] at h; cases h)]
  · rfl
theorem joinM_good {l : List ByteArray} (h : l.all wordB = true) : joinM l = if textB (joinB l blank) = true then (joinB l blank, 0) else (⟨#[]⟩, 1) := by
  unfold joinM
  by_cases ht : textB (joinB l blank) = true
  · rw [if_pos ht, if_pos ht, if_pos (word_small h ht)]
  · rw [if_neg ht, if_neg ht]

theorem spec_l0j (l : List ByteArray) (hf : joinFine l) (M : Nat) (hM : (joinB l blank).size + l.length + 1048576 + 10 ≤ M) : ∀ d i, i + d = l.length → i ≤ 61 → (l.take i).all wordB = true →
    spec_JoinWords.l0 (d + M + 1) l (i : Nat) = some (joinM l) := by
  intro d
  induction d with
  | zero =>
    intro i hi h61 ha
    obtain rfl : i = l.length := by omega
    rw [List.take_of_length_le (Nat.le_refl _)] at ha
    have hsz := joinB_len l 1048576 hf.2
    rw [Nat.zero_add, spec_JoinWords.l0, if_neg (by omega), spec_l01Joined.val l hf _ (by omega)]
    simp only [Option.bind_some]
    have h2 : l.length * (1048576 + 1) ≤ 1048576 * 1048577 := Nat.mul_le_mul_right _ hf.1
    rw [at_rounds (spec_l01Text.mono _) (by omega) (spec_l01Text.val (joinB l blank) (by omega)), joinM_good ha]
    simp only [Option.bind_some]
    cases textB (joinB l blank) <;> rfl
  | succ d ih =>
    intro i hi h61 ha
    have hlt : i < l.length := by omega
    have hx := hf.2 l[i] (List.getElem_mem hlt)
    have hl := hf.1
    rw [show d + 1 + M + 1 = (d + M + 1) + 1 by omega, spec_JoinWords.l0, if_pos (by omega), if_pos (by omega), rdOf_get _ _ _ hlt, wrap_succ hlt (by omega), at_rounds (spec_l01Word.mono _) (by omega) (spec_l01Word.val l[i] (by omega))]
    simp only [Option.bind_some]
    cases hq : wordB l[i] with
    | false =>
      rw [joinM_bad (by rw [List.all_eq_false]; exact ⟨_, List.getElem_mem hlt, by rw [hq]; simp⟩)]
      rfl
    | true =>
      rw [if_pos rfl]
      by_cases h60 : (i : Int) > 60
      · rw [if_pos h60, joinM_long (by omega)]
      · rw [if_neg h60]
        exact ih (i + 1) (by omega) (by omega) (by rw [List.take_succ_eq_append_getElem hlt, List.all_append, ha]; simp [hq])

theorem laws_FnExactJoinWords.holds (l : List ByteArray) (A : Option Addr) (c : Nat) (W : World) (hG : Glob W) (hr : Kd.C Kd.string W A l.length l) (hc : l.length ≤ c) (hs : ∀ x ∈ l, x.size ≤ 9223372036854775807) :
    Calls Tryd.prog 5 #[.slice A l.length c] W fun e w' => e = .returned (.bool true) ∧ Below W.heap.size W w' := by
  have hm := Kd.C_max hr
  obtain ⟨K, hK⟩ : ∃ K, K = (joinB l blank).size + 2 * l.length + 1048596 := ⟨_, rfl⟩
  refine laws_FnExactJoinWords.calls (K + 1) A c l true W hG hr hc ?_
  obtain ⟨r, h1, h2⟩ := laws_szStringS.val l hm hs 1048576 (by omega) (by omega)
  unfold laws_FnExactJoinWords.f
  rw [at_rounds (laws_szStringS.mono l 1048576) (by omega) h1]
  simp only [Option.bind_some]
  by_cases h : r < 0
  · rw [if_pos h]
  rw [if_neg h]
  have hf : joinFine l := ⟨by omega, fun x hx => by
    rcases h2 with h3 | h3
    · omega
    · have := h3.2.2.2 x hx
      omega⟩
  have hl := hf.1
  have e1 : ∀ k, l.length < k → laws_toStringS.f k l = some l := fun k hk => at_rounds (laws_toStringS.mono l) (by omega) (laws_toStringS.val l (by omega))
  have e2 : ∀ k, l.length < k → laws_eqStringS.f k l l = some true := fun k hk => by
    rw [at_rounds (laws_eqStringS.mono l l) (by omega) (laws_eqStringS.val l l hm)]; simp
  have e4 : impl_JoinWords.f l = some (joinM l) := by
    unfold impl_JoinWords.f
    rw [if_pos hl, if_pos (List.all_eq_true.2 fun x hx => decide_eq_true (hf.2 x hx))]
  have e5 : spec_JoinWords.f (K + 1) l = some (joinM l) := by
    unfold spec_JoinWords.f
    exact at_rounds (fun k => spec_JoinWords.mono_l k _ _) (by omega) (spec_l0j l hf (K - l.length - 1) (by omega) l.length 0 (by omega) (by omega) (by simp))
  rw [e1 _ (by omega)]
  simp only [Option.bind_some]
  rw [e5]
  simp only [Option.bind_some]
  rw [e4]
  simp only [Option.bind_some, if_true, bne_self_eq_false]
  rw [laws_FnExactJoinWords.j0]
  simp only [Bool.false_eq_true, if_false]
  rw [e1 _ (by omega)]
  simp only [Option.bind_some]
  rw [e2 _ (by omega)]
  rfl
end Go.Proofs.YtopgdkhdlpbjmaaDoor.Q
