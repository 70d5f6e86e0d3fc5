/- strings.Split at a separator that is not empty, in the printed form, out of the shelf. -/
import Derived.Test.YtiapaggkbhdnkaaDoorQlibF
import Derived.Test.YtiapaggkbhdnkaaDoorShelf
import Derived.Lib.SplitLaws
namespace Go.Proofs.YtiapaggkbhdnkaaDoor.Q
open Go.RowKit Go.Proofs.YtiapaggkbhdnkaaDoorW.PrintWords Go.Proofs.YtiapaggkbhdnkaaDoorW.PrintLast Go.Proofs.YtiapaggkbhdnkaaDoorW.PrintMore
set_option linter.unusedVariables false

def strings_Split.f (s sep : ByteArray) : Option (List ByteArray) := if s.size < 4294967281 ∧ 1 ≤ sep.size then some (Lib.splitB sep 0 (Lib.countB s sep) s) else none
theorem strings_Split.calls (a0 a1 : ByteArray) (r : List ByteArray) (w : World) (hG_ : Glob w) (h : strings_Split.f a0 a1 = some r) :
    Calls Tryd.prog 40 #[.string a0, .string a1] w fun e w' => ∃ v0_ : Value, e = .returned v0_ ∧ Kd.R Kd.string 9 w' w.heap.size (fun _ => True) v0_ r ∧ Below w.heap.size w w' := by
  unfold strings_Split.f at h
  split at h
  · rename_i hc
    obtain ⟨h1, h2⟩ := hc
    cases h
    obtain ⟨m, hm⟩ := hG_.maxLen
    have hl := Lib.splitB_all a1 h2 0 _ a0 rfl
    have hle := Lib.countB_le a1 h2 _ a0 (Nat.le_refl _)
    refine (Tryd.strings_Split a0 a1 m w h1 hm h2).mono ?_
    rintro e w' ⟨rfl, rfl⟩
    have hR := R_laid w (Lib.splitB a1 0 (Lib.countB a0 a1) a0) (by omega)
    rw [hl] at hR
    exact ⟨_, rfl, hR, below_alloc (Below.refl _ _) _⟩
  · cases h
end Go.Proofs.YtiapaggkbhdnkaaDoor.Q
