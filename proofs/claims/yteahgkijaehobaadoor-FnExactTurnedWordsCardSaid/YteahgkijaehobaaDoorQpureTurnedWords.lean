/- spec.TurnedWords answers as the program does; the law TurnedWords holds. -/
import Derived.Test.YteahgkijaehobaaDoorQhandTurnedLaw
import Derived.Test.YteahgkijaehobaaDoorQpureTurn
namespace Go.Proofs.YteahgkijaehobaaDoor.Q
open Go.RowKit Go.Proofs.YteahgkijaehobaaDoorW.PrintWords Go.Proofs.YteahgkijaehobaaDoorW.PrintLast Go.Proofs.YteahgkijaehobaaDoorW.PrintMore
open Go.Proofs.YteahgkijaehobaaDoor.Pure
set_option linter.unusedVariables false

theorem rowP_none (p : Nat → Nat → Bool) (i k : Nat) (h : ∀ j, j < k → p i j = false) : rowP p i k = [] := by
  induction k with
  | zero => rfl
  | succ k ih => rw [rowP_miss p i k (h k (by omega)), ih (fun j hj => h j (by omega))]

theorem tw_inner (l : List ByteArray) (i : Nat) (hi : i < l.length) (hl : l.length ≤ 12) (acc : List PR) (ha : acc.length ≤ 200) (M : Nat) (r : List PR × Int) (h : spec_TurnedWords.l0 M l (acc ++ rowP (pairB l) i l.length) ((i + 1 : Nat) : Int) = some r)
    (h2 : (turnedV (rdOf ByteArray.empty l (i : Nat))).2 = true) : ∀ d k, k + d = l.length → i ≤ k →
    spec_TurnedWords.l1 (M + 2 * d + 2) l (acc ++ rowP (pairB l) i k) (i : Nat) (turnedV (rdOf ByteArray.empty l (i : Nat))).1 true (k : Nat) = some r := by
  intro d
  induction d with
  | zero =>
    intro k hk hik
    obtain rfl : k = l.length := by omega
    show spec_TurnedWords.l1 ((M + 1) + 1) _ _ _ _ _ _ = _
    rw [spec_TurnedWords.l1, if_neg (by omega), spec_TurnedWords.j2, if_neg (by simp), wrap_succ hi (by omega)]
    exact h
  | succ d ih =>
    intro k hk hik
    have hlt : k < l.length := by omega
    have hrl := rowP_len (pairB l) i k
    have hpb : pairB l i k = decide ((turnedV (rdOf ByteArray.empty l (i : Nat))).1 = rdOf ByteArray.empty l (k : Nat)) := by
      unfold pairB
      rw [decide_eq_true hik, h2, Bool.true_and, Bool.true_and]
    have hnext := ih (k + 1) (by omega) (by omega)
    show spec_TurnedWords.l1 ((M + 2 * d + 2 + 1) + 1) _ _ _ _ _ _ = _
    rw [spec_TurnedWords.l1, if_pos (by omega), spec_TurnedWords.j2, if_pos rfl, if_pos (by omega), if_pos (by omega), wrap_succ hlt (by omega)]
    by_cases c : (turnedV (rdOf ByteArray.empty l (i : Nat))).1 = rdOf ByteArray.empty l (k : Nat)
    · rw [if_pos (bytes_eq.2 c), if_pos (by rw [List.length_append]; omega), List.append_assoc, ← rowP_hit (pairB l) i k (by rw [hpb, decide_eq_true c])]
      exact hnext
    · rw [if_neg (fun e => c (bytes_eq.1 e))]
      rw [rowP_miss (pairB l) i k (by rw [hpb, decide_eq_false c])] at hnext
      exact hnext

theorem tw_outer (l : List ByteArray) (hl : l.length ≤ 12) (hs : ∀ i : Nat, i < l.length → (rdOf ByteArray.empty l (i : Nat)).size ≤ 20) : ∀ d i, i + d = l.length →
    spec_TurnedWords.l0 (d * (2 * l.length + 5) + 60) l (pairsP (pairB l) l.length i) (i : Nat) = some (pairsP (pairB l) l.length l.length, 0) := by
  intro d
  induction d with
  | zero =>
    intro i hi
    obtain rfl : i = l.length := by omega
    rw [Nat.zero_mul, Nat.zero_add, show (60 : Nat) = 59 + 1 from rfl, spec_TurnedWords.l0, if_neg (by omega)]
  | succ d ih =>
    intro i hi
    have hlt : i < l.length := by omega
    have hw := hs i hlt
    have h := ih (i + 1) (by omega)
    rw [pairsP_step] at h
    have hpl := pairsP_len (pairB l) l.length i
    have hmul : i * l.length ≤ 12 * 12 := Nat.mul_le_mul (by omega) hl
    have e : (d + 1) * (2 * l.length + 5) + 60 = (d * (2 * l.length + 5) + 60 + 2 * l.length + 4) + 1 := by rw [Nat.add_mul]; omega
    rw [e, spec_TurnedWords.l0, if_pos (by omega), if_pos (by omega), at_rounds (spec_l04Turned.mono _) (by omega) (spec_l04Turned.val _ (by omega))]
    simp only [Option.bind_some]
    cases h2 : (turnedV (rdOf ByteArray.empty l (i : Nat))).2 with
    | true =>
      have h0 : rowP (pairB l) i i = [] := rowP_none _ _ _ fun j hj => by
        unfold pairB
        rw [decide_eq_false (by omega), Bool.false_and, Bool.false_and]
      have := tw_inner l i hlt hl (pairsP (pairB l) l.length i) (by omega) _ _ h h2 (l.length - i) i (by omega) (Nat.le_refl _)
      rw [h0, List.append_nil] at this
      exact at_rounds (fun k => (spec_TurnedWords.mono_l k).2.1 _ _ _ _ _ _) (by omega) this
    | false =>
      have h0 : rowP (pairB l) i l.length = [] := rowP_none _ _ _ fun j hj => by
        unfold pairB
        rw [h2, Bool.and_false, Bool.false_and]
      rw [h0, List.append_nil] at h
      have h3 : spec_TurnedWords.l1 (d * (2 * l.length + 5) + 60 + 1 + 1) l (pairsP (pairB l) l.length i) (i : Nat) (turnedV (rdOf ByteArray.empty l (i : Nat))).1 false (i : Nat) = some (pairsP (pairB l) l.length l.length, 0) := by
        rw [spec_TurnedWords.l1, if_pos (by omega), spec_TurnedWords.j2, if_neg (by simp), wrap_succ hlt (by omega)]
        exact h
      exact at_rounds (fun k => (spec_TurnedWords.mono_l k).2.1 _ _ _ _ _ _) (by omega) h3

theorem spec_TurnedWords.val (l : List ByteArray) (hl : l.length ≤ 9223372036854775807) (k : Nat) (hk : l.length + 1000 ≤ k) : spec_TurnedWords.f k l = some (turnedM l) := by
  unfold spec_TurnedWords.f turnedM
  simp only [Option.bind_some]
  rw [spec_l04List.val l hl k (by omega)]
  simp only [Option.bind_some]
  cases hs : listB l with
  | false => simp
  | true =>
    obtain ⟨h12, h20⟩ := listB_small hs
    simp only [if_true]
    have h := tw_outer l h12 h20 l.length 0 (by omega)
    refine at_rounds (fun k => (spec_TurnedWords.mono_l k).1 _ _ _) ?_ h
    have : l.length * (2 * l.length + 5) ≤ 12 * 29 := Nat.mul_le_mul h12 (by omega)
    omega

theorem turnedM_len (l : List ByteArray) : (turnedM l).1.length ≤ 1000000 := by
  unfold turnedM
  cases hs : listB l with
  | false => simp
  | true =>
    obtain ⟨h12, _⟩ := listB_small hs
    have h1 := pairsP_len (pairB l) l.length l.length
    have h2 : l.length * l.length ≤ 12 * 12 := Nat.mul_le_mul h12 h12
    simp only [if_true]
    omega

theorem laws_FnExactTurnedWords.holds (l : List ByteArray) (A : Option Addr) (c : Nat) (W : World) (hG : Glob W) (hr : Kd.C Kd.string W A l.length l) (hc : l.length ≤ c) (hs : ∀ x ∈ l, x.size ≤ 9223372036854775807) :
    Calls Tryd.prog 12 #[.slice A l.length c] W fun e w' => e = .returned (.bool true) ∧ Below W.heap.size W w' := by
  have hm := Kd.C_max hr
  obtain ⟨r, h1, h2⟩ := laws_szStringS.val l hm hs 1048576 (by omega) (by omega)
  obtain ⟨m, hm1⟩ : ∃ m, 0 ≤ r → laws_markStringS.f (l.length + 1000) l 1 = some (((l.length + 1 : Nat) : Int), m) := by
    by_cases h0 : 0 ≤ r
    · obtain ⟨m, h⟩ := laws_markStringS.some_ l (by omega) (l.length + 1000) (by omega)
      exact ⟨m, fun _ => h⟩
    · exact ⟨[], fun h => absurd h h0⟩
  exact laws_FnExactTurnedWords.calls (l.length + 1000) (by omega) A c l W hG hr hc r (at_rounds (laws_szStringS.mono l 1048576) (by omega) h1)
    (fun h0 => at_rounds (laws_toStringS.mono l) (by omega) (laws_toStringS.val l (by omega)))
    (by rw [at_rounds (laws_eqStringS.mono l l) (by omega) (laws_eqStringS.val l l hm)]; simp) m hm1 (turnedM l).1 (turnedM l).2 rfl (spec_TurnedWords.val l hm _ (Nat.le_refl _)) (turnedM_len l)
end Go.Proofs.YteahgkijaehobaaDoor.Q
