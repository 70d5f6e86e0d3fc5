/- impl.ValidPieces: a list of pieces. -/
import Derived.Test.YtfgifjdapojheaaDoorQhandFuncPiece
import Derived.Test.YtfgifjdapojheaaDoorQpureWord
import Derived.Test.YtfgifjdapojheaaDoorQimplValidPieces1
import Derived.Test.YtfgifjdapojheaaDoorQspecl04Pieces
namespace Go.Proofs.YtfgifjdapojheaaDoor.Q
open Go.RowKit Go.Proofs.YtfgifjdapojheaaDoorW.PrintWords Go.Proofs.YtfgifjdapojheaaDoorW.PrintLast Go.Proofs.YtfgifjdapojheaaDoorW.PrintMore
open Go.Proofs.YtfgifjdapojheaaDoor.Pure
set_option linter.unusedVariables false

def pieceB (x : S44) : Bool := textB x.f0 && decide ((x.f0.size : Int) ≤ 20)
def piecesB (l : List S44) : Bool := l.all pieceB && decide ((l.length : Int) ≤ 8)
def impl_ValidPieces.f (l : List S44) : Option Bool := some (piecesB l)

theorem pieces_any (l : List S44) : (!(l.any fun x => !pieceB x)) = l.all pieceB := by
  rw [← List.not_all_eq_any_not, Bool.not_not]

theorem impl_ValidPieces_1.valM (x : S44) (k : Nat) (hk : 61 ≤ k) : impl_ValidPieces_1.f k x.f0 x.f1 x.f2 = some (!pieceB x) := by
  unfold impl_ValidPieces_1.f pieceB
  rw [impl_ValidText.valM _ k hk]
  cases textB x.f0
  · simp
  · by_cases h : (x.f0.size : Int) ≤ 20
    · simp [h, show ¬ 20 < (x.f0.size : Int) by omega]
    · simp [h, show 20 < (x.f0.size : Int) by omega]

theorem spec_l04Pieces.val (l : List S44) (hl : l.length ≤ 9223372036854775807) (k : Nat) (hk : l.length + 21 < k) : spec_l04Pieces.f k l = some (piecesB l) := by
  unfold spec_l04Pieces.f piecesB
  rw [← range_all_get l pieceB (fun i => pieceB (rd_T44 l (i : Nat))) (fun i hi => by rw [rdT_get _ _ hi])]
  refine scan_allM (M := 21) (l := fun k i => spec_l04Pieces.l0 k l i) (fun k i hi hM => ?_) (fun k hM => ?_) _ (by omega)
  · simp only [spec_l04Pieces.l0]
    rw [if_pos (by omega), if_pos (by omega), wrap_succ hi hl]
    unfold pieceB
    by_cases h : ((rd_T44 l (i : Nat)).f0.size : Int) > 20
    · rw [if_pos h]
      simp [show ¬ ((rd_T44 l (i : Nat)).f0.size : Int) ≤ 20 by omega]
    · rw [if_neg h, at_rounds (spec_l01Text.mono _) (by omega) (spec_l01Text.val _ (by omega))]
      simp [show ((rd_T44 l (i : Nat)).f0.size : Int) ≤ 20 by omega]
  · simp [spec_l04Pieces.l0]

set_option maxHeartbeats 1000000 in
theorem impl_ValidPieces.calls (A0 : Option Addr) (c0 : Nat) (l0 : List S44) (r : Bool) (w : World) (hG_ : Glob w) (hr0 : Kd.C k44 w A0 l0.length l0) (hc0 : l0.length ≤ c0) (h : impl_ValidPieces.f l0 = some r) :
    Calls Tryd.prog 17 #[.slice A0 l0.length c0] w fun e w' => e = .returned (.bool r) ∧ Below w.heap.size w w' := by
  obtain rfl := Option.some.inj h
  clear h
  have hm := Kd.C_max hr0
  have HR := Lib.hid hr0
  have HG := Lib.hid hG_
  clear hr0 hG_
  have HX := Lib.hid (pieces_any l0)
  unfold piecesB
  by_cases h1 : (l0.length : Int) ≤ 8
  · rw [decide_eq_true h1, Bool.and_true, ← HX.out]
    have h1d : decide ((l0.length : Int) ≤ 8) = true := decide_eq_true h1
    have hcf := contains_func_piece 26 #[] (fun x => !pieceB x) l0 A0 c0 w (enters_of Tryd.func26 (by kernel_rfl) rfl) HR.out
      (fun x hx W hW => (impl_ValidPieces_1.calls 61 x.f0 x.f1 x.f2 (!pieceB x) W (HG.out.step hW) (impl_ValidPieces_1.valM x 61 (by omega))).mono fun e w' ⟨he, hb⟩ => ⟨he, below_step hW hb⟩)
    generalize (l0.any fun x => !pieceB x) = q at hcf ⊢
    go_enter Tryd.func17, Tryd.ntmps17
    go_wp2_with (refine hcf.mono ?_; rintro e w' ⟨rfl, hb⟩)
    go_ret
    exact ⟨rfl, hb⟩
  · rw [decide_eq_false h1, Bool.and_false]
    have h1d : decide ((l0.length : Int) ≤ 8) = false := decide_eq_false h1
    go_enter Tryd.func17, Tryd.ntmps17
    go_wp2
    go_ret
    exact ⟨rfl, Below.refl _ _⟩
end Go.Proofs.YtfgifjdapojheaaDoor.Q
