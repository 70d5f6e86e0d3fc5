/- slices.Clone of numbers in the printed form, out of the shelf. -/
import Derived.Test.YtiapaggkbhdnkaaGreatDoorQ0
import Derived.Test.YtiapaggkbhdnkaaGreatDoorShelf
import Derived.Test.YtiapaggkbhdnkaaGreatDoorBase
import Derived.DataReads
namespace Go.Proofs.YtiapaggkbhdnkaaGreatDoor.Q
open Go.RowKit Go.Proofs.YtiapaggkbhdnkaaGreatDoorW.PrintWords Go.Proofs.YtiapaggkbhdnkaaGreatDoorW.PrintLast Go.Proofs.YtiapaggkbhdnkaaGreatDoorW.PrintMore
set_option linter.unusedVariables false

def slices_Clone_int64.f (l0 : List Int) : Option (List Int) := if l0.length ≤ 4000000 then some l0 else none
theorem slices_Clone_int64.calls (A0 : Option Addr) (c0 : Nat) (l0 : List Int) (r : List Int) (w : World) (hr0 : Kd.C (Kd.int .i64) w A0 l0.length l0) (hc0 : l0.length ≤ c0) (h : slices_Clone_int64.f l0 = some r) :
    Calls Tryz.prog 23 #[.slice A0 l0.length c0] w fun e w' => ∃ v0_ : Value, e = .returned (v0_) ∧ Kd.R (Kd.int .i64) 2 w' w.heap.size (fun _ => True) v0_ r ∧ Below w.heap.size w w' := by
  unfold slices_Clone_int64.f at h
  split at h
  rotate_left
  · cases h
  rename_i hl
  cases h
  by_cases h0 : l0.length = 0
  · have : l0 = [] := List.length_eq_zero_iff.1 h0
    subst this
    cases A0 with
    | none =>
      refine (Tryz.slices_Clone_int_nil 0 c0 w).mono ?_
      rintro e w' ⟨rfl, rfl⟩
      exact ⟨_, rfl, ⟨fun k hk => trivial, [], World.ownsRow_nil _ _ _ _, Reps.none _ _⟩, Below.refl _ _⟩
    | some a =>
      refine (Tryz.slices_Clone_int_zero a c0 w).mono ?_
      rintro e w' ⟨v', rfl, ho, _, hb⟩
      exact ⟨_, rfl, ⟨fun k hk => trivial, [], ho, Reps.none _ _⟩, hb⟩
  obtain ⟨⟨b, o, sp⟩, rfl, hx⟩ := Kd.at_int hr0 0 (by omega) (by omega)
  have hsp := World.cell?_spot hx
  have hsp2 : sp = none := by simpa [Addr.add] using hsp
  subst hsp2
  refine (Tryz.slices_Clone_int b o l0.length c0 l0 w (Nat.le_refl _) (by omega) (fun j hj => ?_)).mono ?_
  · obtain ⟨ad2, e2, hy⟩ := Kd.at_int hr0 (j : Int) (by omega) (by omega)
    cases e2
    rw [Int.toNat_natCast] at hy
    have ea : (⟨b, o, none⟩ : Addr).add j = ⟨b, o + j, none⟩ := by
      unfold Addr.add
      by_cases hj0 : j = 0
      · rw [if_pos hj0, hj0]
        rfl
      · rw [if_neg hj0]
    rw [ea] at hy
    rw [hy]
    unfold rd
    simp
  · rintro e w' ⟨v', rfl, ho, _, hb⟩
    rw [List.take_length] at ho
    refine ⟨v', rfl, ⟨fun k hk => trivial, l0.map (Value.int .i64), ho, ?_⟩, hb⟩
    refine ⟨?_, fun j p hj => ?_⟩
    · show (l0.map (Value.int .i64)).length = l0.length * 1
      simp
    · show (((l0.map (Value.int .i64)).drop (j * 1)).take 1) = [Value.int .i64 p]
      obtain ⟨hlt, rfl⟩ := List.getElem?_eq_some_iff.1 hj
      rw [Nat.mul_one, List.drop_eq_getElem_cons (by simpa using hlt)]
      simp
end Go.Proofs.YtiapaggkbhdnkaaGreatDoor.Q
