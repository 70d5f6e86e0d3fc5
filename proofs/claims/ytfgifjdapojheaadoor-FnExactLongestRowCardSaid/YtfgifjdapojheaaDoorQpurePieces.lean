/- The laws' own helpers on rows of pieces; the law ValidPieces holds. -/
import Derived.Test.YtfgifjdapojheaaDoorQhandValidPieces
import Derived.Test.YtfgifjdapojheaaDoorQlawstoPieceS
import Derived.Test.YtfgifjdapojheaaDoorQlawseqPieceS
import Derived.Test.YtfgifjdapojheaaDoorQlawsszPieceS
import Derived.Test.YtfgifjdapojheaaDoorOpen
namespace Go.Proofs.YtfgifjdapojheaaDoor.Q
open Go.RowKit Go.Proofs.YtfgifjdapojheaaDoorW.PrintWords Go.Proofs.YtfgifjdapojheaaDoorW.PrintLast Go.Proofs.YtfgifjdapojheaaDoorW.PrintMore
open Go.Proofs.YtfgifjdapojheaaDoor.Pure
set_option linter.unusedVariables false

abbrev LP := S36
abbrev IP := S44
instance : Inhabited LP := ⟨z36⟩
def toP (x : LP) : IP := ⟨x.f0, x.f1, x.f2⟩

theorem rdL_get (xs : List LP) (k : Nat) (h : k < xs.length) : rd_T36 xs (k : Int) = xs[k] := by
  unfold rd_T36
  simp [List.getD_eq_getElem?_getD, h]

theorem laws_toPieceS.val (l : List LP) (hl : l.length ≤ 11728124029610) : laws_toPieceS.f (l.length + 1) l = some (l.map toP) := by
  unfold laws_toPieceS.f
  rw [if_pos (by omega), if_pos (by omega)]
  refine scan_copy (n := l.length) (l := fun k i x => laws_toPieceS.l0 k l x i) (by simp) (fun k i x hi hx => ?_) (fun k x hx => ?_) _ (by omega) _ (by simp)
  · simp only [laws_toPieceS.l0, laws_toPiece.f, Option.bind_some]
    rw [if_pos (by omega), if_pos (by omega), if_pos (by omega), wrap_succ hi (by omega), rdL_get _ _ hi, Int.toNat_natCast, List.getElem_map]
    rfl
  · simp [laws_toPieceS.l0]

theorem laws_eqPiece.val (x y : IP) : laws_eqPiece.f x.f0 x.f1 x.f2 y.f0 y.f1 y.f2 = some (decide (x.f0 = y.f0 ∧ x.f1 = y.f1 ∧ x.f2 = y.f2)) := by
  unfold laws_eqPiece.f
  simp only [bytes_eq]
  by_cases h0 : x.f0 = y.f0 <;> by_cases h1 : x.f1 = y.f1 <;> by_cases h2 : x.f2 = y.f2 <;> simp [h0, h1, h2]

theorem laws_eqPieceS.val_self (l : List IP) (hl : l.length ≤ 9223372036854775807) : laws_eqPieceS.f (l.length + 1) l l = some true := by
  unfold laws_eqPieceS.f
  rw [if_pos rfl]
  have := scan_all (n := l.length) (l := fun k i => laws_eqPieceS.l0 k l l i) (p := fun i => true) (b := true) (fun k i hi => ?_) (fun k => ?_) (l.length + 1) (by omega)
  · rw [show (List.range l.length).all (fun _ => true) = true from List.all_eq_true.2 (fun _ _ => rfl)] at this
    exact this
  · simp only [laws_eqPieceS.l0]
    rw [if_pos (by omega), if_pos (by omega), if_pos (by omega), laws_eqPiece.val, wrap_succ hi (by omega)]
    simp
  · simp [laws_eqPieceS.l0]

/-- What is left of a budget b: less than none, or the row is short and so is each text. -/
theorem laws_szPieceS.val (l : List LP) (hl : l.length ≤ 9223372036854775807) (hs : ∀ x ∈ l, x.f0.size ≤ 9223372036854775807) (b : Int) (h0 : 0 ≤ b) (hb : b ≤ 9223372036854775807) :
    ∃ r, laws_szPieceS.f (l.length + 1) l b = some r ∧ (r < 0 ∨ (0 ≤ r ∧ r ≤ b ∧ (l.length : Int) ≤ b ∧ ∀ x ∈ l, (x.f0.size : Int) ≤ b)) := by
  unfold laws_szPieceS.f
  rw [wrap_id (by omega) (by omega)]
  by_cases hn : b - (l.length : Int) < 0
  · rw [if_pos hn]
    exact ⟨-1, rfl, Or.inl (by omega)⟩
  · rw [if_neg hn]
    have hz : ∀ i : Nat, i < l.length → (rd_T36 l (i : Nat)).f0.size ≤ 9223372036854775807 := fun i hi => by rw [rdL_get _ _ hi]; exact hs _ (List.getElem_mem hi)
    obtain ⟨r, h1, h2⟩ := scan_size (n := l.length) (b := b) (l := fun k i x => laws_szPieceS.l0 k l x i) (g := fun i x => x - ((rd_T36 l (i : Nat)).f0.size : Int)) (Q := fun i => ((rd_T36 l (i : Nat)).f0.size : Int) ≤ b)
      (fun k i x hi hx0 hx => by
        have := hz i hi
        simp only [laws_szPieceS.l0, laws_szPiece.f]
        rw [if_pos (by omega), if_pos (by omega), wrap_id (n := x - _) (by omega) (by omega), wrap_succ hi hl]
        by_cases hq : x - ((rd_T36 l (i : Nat)).f0.size : Int) < 0
        · rw [if_pos hq, if_pos hq]
          simp
        · rw [if_neg hq, if_neg hq]
          simp only [Option.bind_some]
          rw [if_neg hq])
      (fun i x hi hx0 hx hg => by omega) (fun k x => by simp [laws_szPieceS.l0]) (l.length + 1) (by omega) (b - l.length) (by omega) (by omega)
    refine ⟨r, h1, h2.imp id fun h => ⟨h.1, by omega, by omega, fun x hx => ?_⟩⟩
    obtain ⟨i, hi, rfl⟩ := List.getElem_of_mem hx
    have := h.2.2 i hi
    rw [rdL_get _ _ hi] at this
    exact this
theorem opens_LP : Open.Opens Tryd.prog 36 k36 (fun x => x.f0.size ≤ 9223372036854775807 ∧ (Lit.int .u8 x.f1).wf = true ∧ (Lit.int .u8 x.f2).wf = true) :=
  Open.opens_struct3 (fun x : LP => (x.f0, x.f1, x.f2)) (fun a b c => ⟨a, b, c⟩) (fun _ _ _ => rfl) Tryd.underlying36 rfl rfl rfl (by kernel_rfl) (by kernel_rfl) (by kernel_rfl) (by kernel_rfl)
    (Open.opens_string Tryd.underlying9) (Open.opens_int Tryd.underlying5) (Open.opens_int Tryd.underlying5)
theorem opens_LPs : Open.Opens Tryd.prog 22 (Kd.slice 36 k36) (fun xs => ∀ x ∈ xs, x.f0.size ≤ 9223372036854775807 ∧ (Lit.int .u8 x.f1).wf = true ∧ (Lit.int .u8 x.f2).wf = true) :=
  Open.opens_slice Tryd.underlying22 (by kernel_rfl) opens_LP
end Go.Proofs.YtfgifjdapojheaaDoor.Q
