/- spec.JoinsOf answers as the program does; the law JoinsOf holds. -/
import Derived.Test.YteahgkijaehobaaDoorQhandJoinsLaw
namespace Go.Proofs.YteahgkijaehobaaDoor.Q
open Go.RowKit Go.Proofs.YteahgkijaehobaaDoorW.PrintWords Go.Proofs.YteahgkijaehobaaDoorW.PrintLast Go.Proofs.YteahgkijaehobaaDoorW.PrintMore
open Go.Proofs.YteahgkijaehobaaDoor.Pure
set_option linter.unusedVariables false

theorem jo_inner (l : List GP) (i : Nat) (hi : i < l.length) (hl : l.length ≤ 8) (acc : List PR) (ha : acc.length ≤ 200) (M : Nat) (r : List PR × Int) (h : spec_JoinsOf.l0 M l (acc ++ rowP (jB l) i l.length) ((i + 1 : Nat) : Int) = some r) : ∀ d k, k + d = l.length →
    spec_JoinsOf.l1 (M + d + 1) l (acc ++ rowP (jB l) i k) (i : Nat) (k : Nat) = some r := by
  intro d
  induction d with
  | zero =>
    intro k hk
    obtain rfl : k = l.length := by omega
    rw [Nat.add_zero, spec_JoinsOf.l1, if_neg (by omega), wrap_succ hi (by omega)]
    exact h
  | succ d ih =>
    intro k hk
    have hlt : k < l.length := by omega
    have hrl := rowP_len (jB l) i k
    have hnext := ih (k + 1) (by omega)
    show spec_JoinsOf.l1 ((M + d + 1) + 1) _ _ _ _ = _
    rw [spec_JoinsOf.l1, if_pos (by omega), wrap_succ hlt (by omega)]
    by_cases c : i = k
    · rw [if_pos (by omega)]
      rw [rowP_miss (jB l) i k (by unfold jB; rw [decide_eq_true c]; rfl)] at hnext
      exact hnext
    · have hj : jB l i k = joinsB (rd_T69 l (i : Nat)) (rd_T69 l (k : Nat)) := by
        unfold jB
        rw [decide_eq_false c]
        rfl
      rw [if_neg (by omega), if_pos (by omega), if_pos (by omega), if_pos (by omega)]
      show ((some (joinsB (rd_T69 l (i : Nat)) (rd_T69 l (k : Nat)))).bind _) = _
      simp only [Option.bind_some]
      cases hq : joinsB (rd_T69 l (i : Nat)) (rd_T69 l (k : Nat)) with
      | true =>
        rw [if_pos rfl, if_pos (by rw [List.length_append]; omega), List.append_assoc, ← rowP_hit (jB l) i k (by rw [hj, hq])]
        exact hnext
      | false =>
        rw [if_neg (by simp)]
        rw [rowP_miss (jB l) i k (by rw [hj, hq])] at hnext
        exact hnext

theorem jo_outer (l : List GP) (hl : l.length ≤ 8) : ∀ d i, i + d = l.length →
    spec_JoinsOf.l0 (d * (l.length + 3) + 2) l (pairsP (jB l) l.length i) (i : Nat) = some (pairsP (jB l) l.length l.length, 0) := by
  intro d
  induction d with
  | zero =>
    intro i hi
    obtain rfl : i = l.length := by omega
    rw [Nat.zero_mul, Nat.zero_add, show (2 : Nat) = 1 + 1 from rfl, spec_JoinsOf.l0, if_neg (by omega)]
  | succ d ih =>
    intro i hi
    have hlt : i < l.length := by omega
    have h := ih (i + 1) (by omega)
    rw [pairsP_step] at h
    have hpl := pairsP_len (jB l) l.length i
    have hmul : i * l.length ≤ 8 * 8 := Nat.mul_le_mul (by omega) hl
    have e : (d + 1) * (l.length + 3) + 2 = (d * (l.length + 3) + 2 + l.length + 2) + 1 := by rw [Nat.add_mul]; omega
    rw [e, spec_JoinsOf.l0, if_pos (by omega)]
    have := jo_inner l i hlt hl (pairsP (jB l) l.length i) (by omega) _ _ h l.length 0 (by omega)
    rw [rowP_zero, List.append_nil] at this
    exact at_rounds (fun k => (spec_JoinsOf.mono_l k).2 _ _ _ _) (by omega) this

theorem spec_JoinsOf.val (l : List GP) (hl : l.length ≤ 9223372036854775807) (k : Nat) (hk : l.length + 1000 ≤ k) : spec_JoinsOf.f k l = some (joinsM l) := by
  unfold spec_JoinsOf.f joinsM
  simp only [Option.bind_some]
  rw [spec_l04Pieces.val l hl k (by omega)]
  simp only [Option.bind_some]
  cases hs : piecesB l with
  | false => simp
  | true =>
    obtain ⟨h8, _⟩ := pieces_small hs
    simp only [if_true]
    have h := jo_outer l h8 l.length 0 (by omega)
    refine at_rounds (fun k => (spec_JoinsOf.mono_l k).1 _ _ _) ?_ h
    have : l.length * (l.length + 3) ≤ 8 * 11 := Nat.mul_le_mul h8 (by omega)
    omega

theorem joinsM_len (l : List GP) : (joinsM l).1.length ≤ 1000000 := by
  unfold joinsM
  cases hs : piecesB l with
  | false => simp
  | true =>
    obtain ⟨h8, _⟩ := pieces_small hs
    have h1 := pairsP_len (jB l) l.length l.length
    have h2 : l.length * l.length ≤ 8 * 8 := Nat.mul_le_mul h8 h8
    simp only [if_true]
    omega

/-- The marks of pieces come to an end, and the count is none below none. -/
theorem laws_markPieceS.some_ (l : List GP) (hl : l.length ≤ 1048576) (k : Nat) (hk : l.length + 21 < k) : ∃ m, laws_markPieceS.f k l 1 = some (((3 * l.length + 1 : Nat) : Int), m) := by
  have key : ∀ d i k (x : List GP), i + d = l.length → x.length = l.length → d + 21 < k → ∃ m, laws_markPieceS.l0 k x ((3 * i + 1 : Nat) : Int) (i : Nat) = some (((3 * l.length + 1 : Nat) : Int), m) := by
    intro d
    induction d with
    | zero =>
      intro i k x hi hx hk
      obtain ⟨k, rfl⟩ : ∃ j, k = j + 1 := ⟨k - 1, by omega⟩
      rw [laws_markPieceS.l0, if_neg (by omega), show i = l.length by omega]
      exact ⟨_, rfl⟩
    | succ d ih =>
      intro i k x hi hx hk
      obtain ⟨k, rfl⟩ : ∃ j, k = j + 1 := ⟨k - 1, by omega⟩
      obtain ⟨t, ht⟩ := laws_markText.some_ k (by omega) ((3 * i + 1 : Nat) : Int) (by omega)
      rw [laws_markPieceS.l0, if_pos (by omega), ht]
      simp only [Option.bind_some]
      rw [if_pos (by omega), wrap_succ (i := i) (n := l.length) (by omega) (by omega), wrap_succ (i := 3 * i + 1) (n := 3 * l.length + 1) (by omega) (by omega), wrap_succ (i := 3 * i + 2) (n := 3 * l.length + 1) (by omega) (by omega), wrap_succ (i := 3 * i + 3) (n := 3 * l.length + 1) (by omega) (by omega)]
      exact ih (i + 1) k _ (by omega) (by simp [hx]) (by omega)
  exact key l.length 0 k l (by omega) rfl (by omega)

theorem laws_FnExactJoinsOf.holds (l : List LP) (A : Option Addr) (c : Nat) (W : World) (hG : Glob W) (hr : Kd.C k68 W A l.length l) (hc : l.length ≤ c) (hs : ∀ x ∈ l, x.f0.size ≤ 9223372036854775807) :
    Calls Tryd.prog 11 #[.slice A l.length c] W fun e w' => e = .returned (.bool true) ∧ Below W.heap.size W w' := by
  have hm := Kd.C_max hr
  have hml : (l.map toP).length = l.length := by simp
  obtain ⟨r, h1, h2⟩ := laws_szPieceS.val l hm hs 1048576 (by omega) (by omega)
  obtain ⟨m, hm1⟩ : ∃ m, 0 ≤ r → laws_markPieceS.f (l.length + 1000) (l.map toP) 1 = some (((3 * (l.map toP).length + 1 : Nat) : Int), m) := by
    by_cases h0 : 0 ≤ r
    · obtain ⟨m, h⟩ := laws_markPieceS.some_ (l.map toP) (by omega) (l.length + 1000) (by omega)
      exact ⟨m, fun _ => h⟩
    · exact ⟨[], fun h => absurd h h0⟩
  exact laws_FnExactJoinsOf.calls (l.length + 1000) (by omega) A c l (l.map toP) W hG hr hc r (at_rounds (laws_szPieceS.mono l 1048576) (by omega) h1)
    (fun h0 => at_rounds (laws_toPieceS.mono l) (by omega) (laws_toPieceS.val l (by omega)))
    (at_rounds (laws_eqPieceS.mono _ _) (by omega) (laws_eqPieceS.val_self (l.map toP) (by omega))) m _ (by omega) hm1 (joinsM (l.map toP)).1 (joinsM (l.map toP)).2 rfl (spec_JoinsOf.val _ (by omega) _ (by omega)) (joinsM_len _)
end Go.Proofs.YteahgkijaehobaaDoor.Q
