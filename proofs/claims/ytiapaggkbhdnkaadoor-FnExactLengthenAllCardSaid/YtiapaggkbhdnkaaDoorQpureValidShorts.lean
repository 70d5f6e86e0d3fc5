/- Shorts: program and reference test alike; the law ValidShorts holds. -/
import Derived.Test.YtiapaggkbhdnkaaDoorQpureShorts
import Derived.Test.YtiapaggkbhdnkaaDoorQpureWord
import Derived.Test.YtiapaggkbhdnkaaDoorQimplValidShorts
import Derived.Test.YtiapaggkbhdnkaaDoorQspecl02Shorts
import Derived.Test.YtiapaggkbhdnkaaDoorQlawsFnExactValidShorts
namespace Go.Proofs.YtiapaggkbhdnkaaDoor.Q
open Go.RowKit Go.Proofs.YtiapaggkbhdnkaaDoorW.PrintWords Go.Proofs.YtiapaggkbhdnkaaDoorW.PrintLast Go.Proofs.YtiapaggkbhdnkaaDoorW.PrintMore
open Go.Proofs.YtiapaggkbhdnkaaDoor.Pure
set_option linter.unusedVariables false

theorem spec_l02Shorts.val (l : List ISh) (hl : l.length ≤ 4611686018427387900) (M : Nat) (hs : ∀ x ∈ l, x.f0.size ≤ M ∧ x.f1.size ≤ M) (hM : M ≤ 9223372036854775807) (k : Nat) (hk : 2 * (l.length + 1) + M + 4 ≤ k) : spec_l02Shorts.f k l = some (shortsB l) := by
  refine at_rounds (spec_l02Shorts.mono l) hk ?_
  unfold spec_l02Shorts.f shortsB
  refine scan_all (n := l.length) (l := fun k i => spec_l02Shorts.l0 (2 * k + M + 4) l i) (fun k i hi => ?_) (fun k => by rw [show 2 * (k + 1) + M + 4 = (2 * k + M + 5) + 1 by omega]; simp [spec_l02Shorts.l0]) (l.length + 1) (by omega)
  have hw : i = 0 ∨ wrap64 ((i : Int) - 1) = ((i - 1 : Nat) : Int) := by
    by_cases h : i = 0
    · exact Or.inl h
    · exact Or.inr (by rw [wrap_id (by omega) (by omega)]; omega)
  have hz := hs _ (List.getElem_mem hi)
  rw [← rdISh_get _ _ hi] at hz
  rw [show 2 * (k + 1) + M + 4 = (2 * k + M + 4) + 1 + 1 by omega]
  simp only [spec_l02Shorts.l0, spec_l02Shorts.j1]
  rw [if_pos (by omega), if_pos (by omega), at_rounds (spec_l01Word.mono _) (by omega) (spec_l01Word.val _ (by omega)), at_rounds (spec_l01Word.mono _) (by omega) (spec_l01Word.val _ (by omega))]
  simp only [Option.bind_some]
  unfold stSh okSh ordSh
  clear hz
  generalize rd_T51 l (i : Nat) = x
  rcases x with ⟨a, b⟩
  dsimp only
  rw [wrap_succ hi (by omega)]
  cases wordB a
  · simp
  cases wordB b
  · simp
  by_cases h1 : (a.size : Int) > 20
  · have : ¬ a.size ≤ 20 := by omega
    simp [this, h1]
  · have h20 : a.size ≤ 20 := by omega
    by_cases h2 : (b.size : Int) ≥ (a.size : Int)
    · have : ¬ b.size < a.size := by omega
      simp [this, h1, h2]
    · have h3 : b.size < a.size := by omega
      rcases hw with rfl | hw
      · simp [h1, h2, h3, h20]
      · by_cases h0 : i = 0
        · subst h0
          simp [h1, h2, h3, h20]
        · rw [hw, if_pos (show (i : Int) > 0 by omega), if_pos (show (0 : Int) ≤ ((i - 1 : Nat) : Int) by omega), if_pos (show ((i - 1 : Nat) : Int) < (l.length : Int) by omega)]
          simp [h1, h2, h3, h20, h0]

theorem laws_FnExactValidShorts.holds (l : List LSh) (A : Option Addr) (c : Nat) (W : World) (hG : Glob W) (hr : Kd.C k50 W A l.length l) (hc : l.length ≤ c) (hs : ∀ x ∈ l, x.f0.size ≤ 9223372036854775807 ∧ x.f1.size ≤ 9223372036854775807) :
    Calls Tryd.prog 3 #[.slice A l.length c] W fun e w' => e = .returned (.bool true) ∧ Below W.heap.size W w' := by
  have hm := Kd.C_max hr
  obtain ⟨K, hK⟩ : ∃ K, K = l.length + 4000000 := ⟨_, rfl⟩
  refine laws_FnExactValidShorts.calls (K + 1) A c l true W hG hr hc ?_
  obtain ⟨r, h1, h2⟩ := laws_szShortS.val l hm hs 1048576 (by omega) (by omega)
  unfold laws_FnExactValidShorts.f
  rw [at_rounds (laws_szShortS.mono l 1048576) (by omega) h1]
  simp only [Option.bind_some]
  by_cases h : r < 0
  · rw [if_pos h]
  · rw [if_neg h]
    have hl : l.length ≤ 1048576 := by omega
    rw [at_rounds (laws_toShortS.mono l) (by omega) (laws_toShortS.val l (by omega))]
    simp only [Option.bind_some]
    have hml : (l.map toSh).length = l.length := by simp
    have h3 : ∀ x ∈ l, x.f0.size ≤ 1048576 ∧ x.f1.size ≤ 1048576 := fun x hx => by
      rcases h2 with h2 | h2
      · omega
      · have := h2.2.2.2 x hx; omega
    have e1 := spec_l02Shorts.val (l.map toSh) (by omega) 1048576 (fun x hx => by obtain ⟨y, hy, rfl⟩ := List.mem_map.1 hx; exact h3 y hy) (by omega) (K + 1) (by omega)
    have e2 := impl_ValidShorts.val (l.map toSh) (by omega) (K + 1) (by omega)
    have e3 : laws_eqShortS.f (K + 1) (l.map toSh) (l.map toSh) = some true := at_rounds (laws_eqShortS.mono (l.map toSh) (l.map toSh)) (by omega) (laws_eqShortS.val_self (l.map toSh) (by omega))
    unfold spec_ValidShorts.f
    simp only [e1, e2, e3, Option.bind_some]
    simp
end Go.Proofs.YtiapaggkbhdnkaaDoor.Q
