/- Shorts: program and reference test alike; the law ValidShorts holds. -/
import Derived.Test.YtiapaggkbhdnkaaGreatDoorQpureShorts
import Derived.Test.YtiapaggkbhdnkaaGreatDoorQpureWord
import Derived.Test.YtiapaggkbhdnkaaGreatDoorQimplValidShorts
import Derived.Test.YtiapaggkbhdnkaaGreatDoorQspecl02Shorts
namespace Go.Proofs.YtiapaggkbhdnkaaGreatDoor.Q
open Go.RowKit Go.Proofs.YtiapaggkbhdnkaaGreatDoorW.PrintWords Go.Proofs.YtiapaggkbhdnkaaGreatDoorW.PrintLast Go.Proofs.YtiapaggkbhdnkaaGreatDoorW.PrintMore
open Go.Proofs.YtiapaggkbhdnkaaGreatDoor.Pure
set_option linter.unusedVariables false

theorem spec_l02Shorts.val (l : List ISh) (hl : l.length ≤ 4611686018427387900) (M : Nat) (hs : ∀ x ∈ l, x.f0.size ≤ M ∧ x.f1.size ≤ M) (hM : M ≤ 9223372036854775807) (k : Nat) (hk : 2 * (l.length + 1) + M + 4 ≤ k) : spec_l02Shorts.f k l = some (shortsB l) := by
  refine at_rounds (spec_l02Shorts.mono l) hk ?_
  unfold spec_l02Shorts.f shortsB
  refine scan_all (n := l.length) (l := fun k i => spec_l02Shorts.l0 (2 * k + M + 4) l i) (fun k i hi => ?_) (fun k => by rw [show 2 * (k + 1) + M + 4 = (2 * k + M + 5) + 1 by omega]; simp [spec_l02Shorts.l0]) (l.length + 1) (by omega)
  have hw : i = 0 ∨ wrap64 ((i : Int) - 1) = ((i - 1 : Nat) : Int) := by
    by_cases h : i = 0
    · exact Or.inl h
    · exact Or.inr (by rw [wrap_id (by omega) (by omega)]; omega)
  have hz := hs _ (List.getElem_mem hi)
  rw [← rdISh_get _ _ hi] at hz
  rw [show 2 * (k + 1) + M + 4 = (2 * k + M + 4) + 1 + 1 by omega]
  simp only [spec_l02Shorts.l0, spec_l02Shorts.j1]
  rw [if_pos (by omega), if_pos (by omega), at_rounds (spec_l01Word.mono _) (by omega) (spec_l01Word.val _ (by omega)), at_rounds (spec_l01Word.mono _) (by omega) (spec_l01Word.val _ (by omega))]
  simp only [Option.bind_some]
  unfold stSh okSh ordSh
  clear hz
  generalize rd_T45 l (i : Nat) = x
  rcases x with ⟨a, b⟩
  dsimp only
  rw [wrap_succ hi (by omega)]
  cases wordB a
  · simp
  cases wordB b
  · simp
  by_cases h1 : (a.size : Int) > 20
  · have : ¬ a.size ≤ 20 := by omega
    simp [this, h1]
  · have h20 : a.size ≤ 20 := by omega
    by_cases h2 : (b.size : Int) ≥ (a.size : Int)
    · have : ¬ b.size < a.size := by omega
      simp [this, h1, h2]
    · have h3 : b.size < a.size := by omega
      rcases hw with rfl | hw
      · simp [h1, h2, h3, h20]
      · by_cases h0 : i = 0
        · subst h0
          simp [h1, h2, h3, h20]
        · rw [hw, if_pos (show (i : Int) > 0 by omega), if_pos (show (0 : Int) ≤ ((i - 1 : Nat) : Int) by omega), if_pos (show ((i - 1 : Nat) : Int) < (l.length : Int) by omega)]
          simp [h1, h2, h3, h20, h0]

end Go.Proofs.YtiapaggkbhdnkaaGreatDoor.Q
