/- The law ValidPieces holds. -/
import Derived.Test.YteahgkijaehobaaDoorQpurePieces
import Derived.Test.YteahgkijaehobaaDoorQlawsFnExactValidPieces
namespace Go.Proofs.YteahgkijaehobaaDoor.Q
open Go.RowKit Go.Proofs.YteahgkijaehobaaDoorW.PrintWords Go.Proofs.YteahgkijaehobaaDoorW.PrintLast Go.Proofs.YteahgkijaehobaaDoorW.PrintMore
open Go.Proofs.YteahgkijaehobaaDoor.Pure
set_option linter.unusedVariables false

theorem laws_FnExactValidPieces.holds (l : List LP) (A : Option Addr) (c : Nat) (W : World) (hG : Glob W) (hr : Kd.C k68 W A l.length l) (hc : l.length ≤ c) (hs : ∀ x ∈ l, x.f0.size ≤ 9223372036854775807) :
    Calls Tryd.prog 7 #[.slice A l.length c] W fun e w' => e = .returned (.bool true) ∧ Below W.heap.size W w' := by
  have hm := Kd.C_max hr
  refine laws_FnExactValidPieces.calls (l.length + 30) A c l true W hG hr hc ?_
  obtain ⟨r, h1, h2⟩ := laws_szPieceS.val l hm hs 1048576 (by omega) (by omega)
  unfold laws_FnExactValidPieces.f
  rw [at_rounds (laws_szPieceS.mono l 1048576) (by omega) h1]
  simp only [Option.bind_some]
  by_cases h : r < 0
  · rw [if_pos h]
  · rw [if_neg h]
    have hl : l.length ≤ 1048576 := by omega
    rw [at_rounds (laws_toPieceS.mono l) (by omega) (laws_toPieceS.val l (by omega))]
    simp only [Option.bind_some]
    have hml : (l.map toP).length = l.length := by simp
    unfold spec_ValidPieces.f impl_ValidPieces.f
    rw [spec_l04Pieces.val (l.map toP) (by omega) _ (by omega), at_rounds (laws_eqPieceS.mono (l.map toP) (l.map toP)) (by omega) (laws_eqPieceS.val_self (l.map toP) (by omega))]
    simp
end Go.Proofs.YteahgkijaehobaaDoor.Q
