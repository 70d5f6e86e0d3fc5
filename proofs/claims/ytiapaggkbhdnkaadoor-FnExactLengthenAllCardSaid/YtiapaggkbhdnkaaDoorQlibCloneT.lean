/- slices.Clone of texts in the printed form, out of the shelf. -/
import Derived.Test.YtiapaggkbhdnkaaDoorQ0
import Derived.Test.YtiapaggkbhdnkaaDoorShelfL
import Derived.Test.YtiapaggkbhdnkaaDoorBase
import Derived.DataReads
namespace Go.Proofs.YtiapaggkbhdnkaaDoor.Q
open Go.RowKit Go.Proofs.YtiapaggkbhdnkaaDoorW.PrintWords Go.Proofs.YtiapaggkbhdnkaaDoorW.PrintLast Go.Proofs.YtiapaggkbhdnkaaDoorW.PrintMore
set_option linter.unusedVariables false

def slices_Clone_string.f (l0 : List ByteArray) : Option (List ByteArray) := if l0.length ≤ 1000000 then some l0 else none
theorem slices_Clone_string.calls (A0 : Option Addr) (c0 : Nat) (l0 : List ByteArray) (r : List ByteArray) (w : World) (hr0 : Kd.C Kd.string w A0 l0.length l0) (hc0 : l0.length ≤ c0) (h : slices_Clone_string.f l0 = some r) :
    Calls Tryd.prog 55 #[.slice A0 l0.length c0] w fun e w' => ∃ v0_ : Value, e = .returned (v0_) ∧ Kd.R Kd.string 9 w' w.heap.size (fun _ => True) v0_ r ∧ Below w.heap.size w w' := by
  unfold slices_Clone_string.f at h
  split at h
  rotate_left
  · cases h
  rename_i hl
  cases h
  by_cases h0 : l0.length = 0
  · have : l0 = [] := List.length_eq_zero_iff.1 h0
    subst this
    cases A0 with
    | none =>
      refine (Tryd.slices_Clone_string_nil 0 c0 w).mono ?_
      rintro e w' ⟨rfl, rfl⟩
      exact ⟨_, rfl, ⟨fun k hk => trivial, [], World.ownsRow_nil _ _ _ _, Reps.none _ _⟩, Below.refl _ _⟩
    | some a =>
      refine (Tryd.slices_Clone_string_zero a c0 w).mono ?_
      rintro e w' ⟨v', rfl, ho, _, hb⟩
      exact ⟨_, rfl, ⟨fun k hk => trivial, [], ho, Reps.none _ _⟩, hb⟩
  obtain ⟨⟨b, o, sp⟩, rfl, hx⟩ := Kd.at_string hr0 0 (by omega) (by omega)
  have hsp := World.cell?_spot hx
  have hsp2 : sp = none := by simpa [Addr.add] using hsp
  subst hsp2
  refine (Tryd.slices_Clone_string b o l0.length c0 l0 w (Nat.le_refl _) (by omega) (fun j hj => ?_)).mono ?_
  · obtain ⟨ad2, e2, hy⟩ := Kd.at_string hr0 (j : Int) (by omega) (by omega)
    cases e2
    rw [Int.toNat_natCast] at hy
    have ea : (⟨b, o, none⟩ : Addr).add j = ⟨b, o + j, none⟩ := by
      unfold Addr.add
      by_cases hj0 : j = 0
      · rw [if_pos hj0, hj0]
        rfl
      · rw [if_neg hj0]
    rw [ea] at hy
    rw [hy]
    unfold rdOf
    simp
  · rintro e w' ⟨v', rfl, ho, _, hb⟩
    rw [List.take_length] at ho
    refine ⟨v', rfl, ⟨fun k hk => trivial, l0.map Value.string, ho, ?_⟩, hb⟩
    refine ⟨?_, fun j p hj => ?_⟩
    · show (l0.map Value.string).length = l0.length * 1
      simp
    · show (((l0.map Value.string).drop (j * 1)).take 1) = [Value.string p]
      obtain ⟨hlt, rfl⟩ := List.getElem?_eq_some_iff.1 hj
      rw [Nat.mul_one, List.drop_eq_getElem_cons (by simpa using hlt)]
      simp
end Go.Proofs.YtiapaggkbhdnkaaDoor.Q
