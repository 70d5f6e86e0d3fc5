/- The law on LongestRow holds: program and reference find the same row. -/
import Derived.Test.YtfgifjdapojheaaDoorQhandLongC
import Derived.Test.YtfgifjdapojheaaDoorQlawsFnExactLongestRow
import Derived.Test.YtfgifjdapojheaaDoorQpurePieces
import Derived.Test.YtfgifjdapojheaaDoorQpureLaw
import Derived.Test.YtfgifjdapojheaaDoorQpureMark
namespace Go.Proofs.YtfgifjdapojheaaDoor.Q
open Go.RowKit Go.Proofs.YtfgifjdapojheaaDoorW.PrintWords Go.Proofs.YtfgifjdapojheaaDoorW.PrintLast Go.Proofs.YtfgifjdapojheaaDoorW.PrintMore
open Go.Proofs.YtfgifjdapojheaaDoor.Pure
set_option linter.unusedVariables false
set_option linter.unusedSimpArgs false

/-- The marks of pieces come to an end, and the count is none below none. -/
theorem laws_markPieceS.some_ (l : List GP) (hl : l.length ≤ 1048576) (k : Nat) (hk : l.length + 21 < k) : ∃ m, laws_markPieceS.f k l 1 = some (((3 * l.length + 1 : Nat) : Int), m) := by
  have key : ∀ d i k (x : List GP), i + d = l.length → x.length = l.length → d + 21 < k → ∃ m, laws_markPieceS.l0 k x ((3 * i + 1 : Nat) : Int) (i : Nat) = some (((3 * l.length + 1 : Nat) : Int), m) := by
    intro d
    induction d with
    | zero =>
      intro i k x hi hx hk
      obtain ⟨k, rfl⟩ : ∃ j, k = j + 1 := ⟨k - 1, by omega⟩
      rw [laws_markPieceS.l0, if_neg (by omega), show i = l.length by omega]
      exact ⟨_, rfl⟩
    | succ d ih =>
      intro i k x hi hx hk
      obtain ⟨k, rfl⟩ : ∃ j, k = j + 1 := ⟨k - 1, by omega⟩
      obtain ⟨t, ht⟩ := laws_markText.some_ k (by omega) ((3 * i + 1 : Nat) : Int) (by omega)
      rw [laws_markPieceS.l0, if_pos (by omega), ht]
      simp only [Option.bind_some]
      rw [if_pos (by omega), wrap_succ (i := i) (n := l.length) (by omega) (by omega), wrap_succ (i := 3 * i + 1) (n := 3 * l.length + 1) (by omega) (by omega), wrap_succ (i := 3 * i + 2) (n := 3 * l.length + 1) (by omega) (by omega), wrap_succ (i := 3 * i + 3) (n := 3 * l.length + 1) (by omega) (by omega)]
      exact ih (i + 1) k _ (by omega) (by simp [hx]) (by omega)
  exact key l.length 0 k l (by omega) rfl (by omega)
theorem longR_len (l : List S44) : (longR l).1.length ≤ 8 := by
  unfold longR
  cases h : piecesB l with
  | false => exact Nat.zero_le _
  | true => exact longGo_len l (l.length + 1) [] [] 8 (by have := small_of h; simp; omega) (Nat.zero_le _) (Nat.zero_le _)
theorem laws_FnExactLongestRow.pure (l : List LP) (hm : l.length ≤ 9223372036854775807) (hs : ∀ x ∈ l, x.f0.size ≤ 9223372036854775807) (k : Nat) (hk : l.length + 1000 ≤ k) : laws_FnExactLongestRow.f k l = some true := by
  obtain ⟨k, rfl⟩ : ∃ j, k = j + 1 := ⟨k - 1, by omega⟩
  obtain ⟨k, rfl⟩ : ∃ j, k = j + 1 := ⟨k - 1, by omega⟩
  obtain ⟨k, rfl⟩ : ∃ j, k = j + 1 := ⟨k - 1, by omega⟩
  unfold laws_FnExactLongestRow.f
  obtain ⟨r, h1, h2⟩ := laws_szPieceS.val l hm hs 1048576 (by omega) (by omega)
  rw [at_rounds (laws_szPieceS.mono l 1048576) (by omega) h1]
  simp only [Option.bind_some]
  by_cases h : r < 0
  · rw [if_pos h]
  rw [if_neg h]
  have hl : l.length ≤ 1048576 := by omega
  have hml : (l.map toP).length = l.length := by simp
  have e1 : ∀ k, l.length < k → laws_toPieceS.f k l = some (l.map toP) := fun k hk => at_rounds (laws_toPieceS.mono l) (by omega) (laws_toPieceS.val l (by omega))
  have e2 : ∀ k, l.length < k → laws_eqPieceS.f k (l.map toP) (l.map toP) = some true := fun k hk => at_rounds (laws_eqPieceS.mono _ _) (by omega) (laws_eqPieceS.val_self (l.map toP) (by omega))
  have e3 : ∀ k, l.length + 21 < k → ∃ m, laws_markPieceS.f k (l.map toP) 1 = some (((3 * (l.map toP).length + 1 : Nat) : Int), m) := fun k hk => laws_markPieceS.some_ (l.map toP) (by omega) k (by omega)
  have S : spec_LongestRow.f (l.map toP) = some (longR (l.map toP)) := rfl
  have I : impl_LongestRow.f (l.map toP) = some (longR (l.map toP)) := rfl
  have hp := longR_len (l.map toP)
  generalize longR (l.map toP) = p at S I hp
  generalize l.map toP = m0 at *
  have EQ : ∀ k, 20 ≤ k → laws_eqInt64S.f k p.1 p.1 = some true := fun k (h : 20 ≤ k) => by
    rw [at_rounds (laws_eqInt64S.mono _ _) (by omega) (laws_eqInt64S.val p.1 p.1 (by omega))]; simp
  have MI := fun k (h : 20 ≤ k) => at_rounds (laws_markInt64S.mono _ _) (show p.1.length + 1 ≤ k by omega) (laws_markInt64S.val p.1 (by omega))
  have HI := fun k (h : 20 ≤ k) => at_rounds (laws_heldInt64S.mono _ _) (show p.1.length + 1 ≤ k by omega) (laws_heldInt64S.val p.1.length (by omega))
  obtain ⟨mm, MK⟩ := e3 (k + 1 + 1) (by omega)
  have n2 : ¬ ((3 * m0.length + 1 : Nat) : Int) < 0 := by omega
  have n3 : ¬ ((p.1.length + 1 : Nat) : Int) < 0 := by omega
  have cc : (p.2 != p.2) = true ↔ False := by simp
  rw [e1 _ (by omega)]
  simp only [Option.bind_some]
  rw [S]
  simp only [Option.bind_some]
  rw [I]
  simp only [Option.bind_some]
  rw [EQ _ (by omega)]
  simp only [Option.bind_some, if_true, laws_FnExactLongestRow.j0, cc, if_false]
  rw [e1 _ (by omega)]
  simp only [Option.bind_some]
  rw [e2 _ (by omega)]
  simp only [Option.bind_some, if_true]
  rw [MK]
  simp only [Option.bind_some, if_neg n2]
  rw [EQ _ (by omega)]
  simp only [Option.bind_some, if_true, laws_FnExactLongestRow.j1, cc, if_false]
  rw [MI _ (by omega)]
  simp only [Option.bind_some]
  rw [HI _ (by omega)]
  simp only [Option.bind_some, if_neg n3, if_true]
  rw [e1 _ (by omega)]
  simp only [Option.bind_some]
  rw [I]
  simp only [Option.bind_some]
  rw [EQ _ (by omega)]
  simp only [Option.bind_some, if_true, laws_FnExactLongestRow.j2, cc, if_false]
  rw [HI _ (by omega)]
  simp only [Option.bind_some, if_neg n3, if_true]
theorem laws_FnExactLongestRow.holds (l : List LP) (A : Option Addr) (c : Nat) (W : World) (hG : Glob W) (hr : Kd.C k36 W A l.length l) (hc : l.length ≤ c) (hs : ∀ x ∈ l, x.f0.size ≤ 9223372036854775807) :
    Calls Tryd.prog 3 #[.slice A l.length c] W fun e w' => e = .returned (.bool true) ∧ Below W.heap.size W w' :=
  laws_FnExactLongestRow.calls (l.length + 1000) A c l true W hG hr hc (laws_FnExactLongestRow.pure l (Kd.C_max hr) hs _ (Nat.le_refl _))
end Go.Proofs.YtfgifjdapojheaaDoor.Q
