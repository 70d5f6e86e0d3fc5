/- The laws on CanTurn and TurnText: program and reference answer alike. -/
import Derived.Test.YteahgkijaehobaaDoorQlawsFnExactCanTurn
import Derived.Test.YteahgkijaehobaaDoorQlawsFnExactTurnText
import Derived.Test.YteahgkijaehobaaDoorQhandTurned
import Derived.Test.YteahgkijaehobaaDoorQpureText
namespace Go.Proofs.YteahgkijaehobaaDoor.Q
open Go.RowKit Go.Proofs.YteahgkijaehobaaDoorW.PrintWords Go.Proofs.YteahgkijaehobaaDoorW.PrintLast Go.Proofs.YteahgkijaehobaaDoorW.PrintMore
open Go.Proofs.YteahgkijaehobaaDoor.Pure Go.Proofs.YteahgkijaehobaaDoor.Bytes
set_option linter.unusedVariables false

theorem spec_l04Turn.val (k : Nat) (x : Int) (hk : 0 < k) : spec_l04Turn.f k x = some ((turnL x).getD 0) := by
  obtain ⟨k, rfl⟩ : ∃ q, k = q + 1 := ⟨k - 1, by omega⟩
  unfold spec_l04Turn.f turnL
  simp only [spec_l04Turn.j0]
  by_cases h1 : x = 72
  · simp [h1]
  by_cases h2 : x = 73
  · simp [h2]
  by_cases h3 : x = 78
  · simp [h3]
  by_cases h4 : x = 79
  · simp [h4]
  by_cases h5 : x = 83
  · simp [h5]
  by_cases h6 : x = 88
  · simp [h6]
  by_cases h7 : x = 90
  · simp [h7]
  by_cases h8 : x = 32
  · simp [h8]
  by_cases h9 : x = 77
  · simp [h9]
  by_cases h10 : x = 87
  · simp [h10]
  simp [h1, h2, h3, h4, h5, h6, h7, h8, h9, h10]
theorem turnL_ne {x v : Int} (h : turnL x = some v) : v ≠ 0 := by
  unfold turnL at h
  split at h
  · cases h; omega
  · split at h
    · cases h; omega
    · split at h
      · cases h; omega
      · cases h
theorem rev_get (a : ByteArray) (m : Nat) (h : m < a.size) : (bytesOf a).reverse.getD m 0 = bt a ((a.size - 1 - m : Nat) : Int) := by
  have hl : (bytesOf a).length = a.size := bytesOf_length a
  rw [List.getD_eq_getElem?_getD, List.getElem?_reverse (by omega), bytesOf_get a _ (by omega), hl]
  rfl
def turnPre (a : ByteArray) (m : Nat) : List Int := (List.range m).map fun j => (turnL ((bytesOf a).reverse.getD j 0)).getD 0
theorem turnPre_all (a : ByteArray) : turnPre a a.size = turnTo (bytesOf a).reverse a.size := by
  unfold turnPre turnTo
  rw [List.length_reverse, bytesOf_length]
  refine List.map_congr_left fun j hj => ?_
  rw [if_pos (List.mem_range.1 hj)]
theorem spec_l04Turned.val (a : ByteArray) (ha : a.size ≤ 140737488355327) : spec_l04Turned.f (a.size + 2) a = some (turnedV a) := by
  have key : ∀ d m k, m + d = a.size → d + 1 < k → turnFine (bytesOf a).reverse m = true → spec_l04Turned.l0 k a (turnPre a m) ((a.size : Int) - 1 - m) = some (turnedV a) := by
    intro d
    induction d with
    | zero =>
      intro m k hm hk hf
      obtain ⟨k, rfl⟩ : ∃ q, k = q + 1 := ⟨k - 1, by omega⟩
      obtain rfl : m = a.size := by omega
      simp only [spec_l04Turned.l0]
      rw [if_neg (by omega), turnPre_all]
      unfold turnedV
      rw [if_pos hf]
    | succ d ih =>
      intro m k hm hk hf
      obtain ⟨k, rfl⟩ : ∃ q, k = q + 1 := ⟨k - 1, by omega⟩
      simp only [spec_l04Turned.l0]
      rw [if_pos (by omega), if_pos (by omega), if_pos (by omega), spec_l04Turn.val k _ (by omega), show (a.size : Int) - 1 - m = ((a.size - 1 - m : Nat) : Int) by omega, ← rev_get a m (by omega)]
      simp only [Option.bind_some]
      cases ht : turnL ((bytesOf a).reverse.getD m 0) with
      | none =>
        have := turnFine_not (bytesOf a).reverse m a.size (by omega) ht
        unfold turnedV
        rw [this]
        simp
      | some v =>
        have hv := turnL_ne ht
        rw [Option.getD_some, if_neg hv, if_pos (by simp [turnPre]; omega), wrap_id (by omega) (by omega)]
        have := ih (m + 1) k (by omega) (by omega) (by rw [turnFine_step, hf, ht]; rfl)
        rw [← this]
        congr 1
        · unfold turnPre
          rw [List.range_succ, List.map_append, List.map_singleton, ht]
          rfl
        · omega
  have := key a.size 0 (a.size + 2) (by omega) (by omega) (by simp [turnFine])
  unfold spec_l04Turned.f
  rw [wrap_id (by omega) (by omega)]
  simpa [turnPre] using this
theorem laws_FnExactCanTurn.holds (a : ByteArray) (W : World) (hG : Glob W) (ha : a.size ≤ 9223372036854775807) :
    Calls Tryd.prog 3 #[.string a] W fun e w' => e = .returned (.bool true) ∧ Below W.heap.size W w' := by
  refine laws_FnExactCanTurn.calls (a.size + 2) a true W hG ?_
  unfold laws_FnExactCanTurn.f
  by_cases h : (a.size : Int) > 1048576
  · rw [if_pos h]
  rw [if_neg h]
  unfold spec_CanTurn.f impl_CanTurn.f
  rw [spec_l04Turned.val a (by omega), at_rounds (spec_l01Text.mono a) (by omega) (spec_l01Text.val a (by omega)), at_rounds (impl_ValidText.mono a) (by omega) (impl_ValidText.val a (by omega)),
    show impl_turned.f a = some (turnedV a) from if_pos (by omega)]
  simp only [Option.bind_some]
  cases (turnedV a).2 <;> simp
theorem laws_FnExactTurnText.holds (a : ByteArray) (W : World) (hG : Glob W) (ha : a.size ≤ 9223372036854775807) :
    Calls Tryd.prog 6 #[.string a] W fun e w' => e = .returned (.bool true) ∧ Below W.heap.size W w' := by
  refine laws_FnExactTurnText.calls (a.size + 2) a true W hG ?_
  unfold laws_FnExactTurnText.f
  by_cases h : (a.size : Int) > 1048576
  · rw [if_pos h]
  rw [if_neg h]
  unfold spec_TurnText.f impl_TurnText.f
  rw [spec_l04Turned.val a (by omega), at_rounds (spec_l01Text.mono a) (by omega) (spec_l01Text.val a (by omega)), at_rounds (impl_ValidText.mono a) (by omega) (impl_ValidText.val a (by omega)),
    show impl_turned.f a = some (turnedV a) from if_pos (by omega)]
  simp only [Option.bind_some]
  cases textB a <;> cases (turnedV a).2 <;> simp
end Go.Proofs.YteahgkijaehobaaDoor.Q
