/- slices.Clone of numbers in the printed form, out of the shelf. -/
import Derived.Test.YtnhepjgnddbhjaaDoorQ0
import Derived.Test.YtnhepjgnddbhjaaDoorShelf
import Derived.Test.YtnhepjgnddbhjaaDoorPure2
import Derived.DataReads
namespace Go.Proofs.YtnhepjgnddbhjaaDoor.Q
open Go.RowKit Go.Proofs.YtnhepjgnddbhjaaDoorW.PrintWords Go.Proofs.YtnhepjgnddbhjaaDoorW.PrintLast Go.Proofs.YtnhepjgnddbhjaaDoorW.PrintMore
set_option linter.unusedVariables false

def slices_Clone_int64.f (l0 : List Int) : Option (List Int) := if 1 ≤ l0.length ∧ l0.length ≤ 1000000 then some l0 else none
theorem slices_Clone_int64.calls (A0 : Option Addr) (c0 : Nat) (l0 : List Int) (r : List Int) (w : World) (hr0 : Kd.C (Kd.int .i64) w A0 l0.length l0) (hc0 : l0.length ≤ c0) (h : slices_Clone_int64.f l0 = some r) :
    Calls Tryd.prog 16 #[.slice A0 l0.length c0] w fun e w' => ∃ v0_ : Value, e = .returned (v0_) ∧ Kd.R (Kd.int .i64) 2 w' w.heap.size (fun _ => True) v0_ r ∧ Below w.heap.size w w' := by
  unfold slices_Clone_int64.f at h
  split at h
  rotate_left
  · cases h
  rename_i hl
  cases h
  obtain ⟨⟨b, o, sp⟩, rfl, hx⟩ := Kd.at_int hr0 0 (by omega) (by omega)
  have hsp := World.cell?_spot hx
  have hsp2 : sp = none := by simpa [Addr.add] using hsp
  subst hsp2
  obtain ⟨i0, hi0, hz0, hz1, hz2⟩ := info_parts info2
  refine (Tryd.slices_Clone i0 (.int .i64 0) 1 8 hi0 hz0 hz1 hz2 rfl (by omega) Tryd.sizeOf2 b o l0.length c0 (l0.map (Value.int .i64)) w (by simp) (by unfold maxLen; omega) (by omega) (fun j u hu => ?_) (fun u hu => ?_)).mono ?_
  · rw [List.getElem?_map] at hu
    obtain ⟨x, hx1, rfl⟩ := Option.map_eq_some_iff.1 hu
    obtain ⟨hlt, rfl⟩ := List.getElem?_eq_some_iff.1 hx1
    obtain ⟨ad2, e2, hy⟩ := Kd.at_int hr0 (j : Int) (by omega) (by omega)
    cases e2
    rw [Int.toNat_natCast, Pure.rd_get _ _ hlt] at hy
    have ea : (⟨b, o, none⟩ : Addr).add j = ⟨b, o + j, none⟩ := by
      unfold Addr.add
      by_cases hj0 : j = 0
      · rw [if_pos hj0, hj0]
        rfl
      · rw [if_neg hj0]
    rw [ea] at hy
    exact hy
  · obtain ⟨x, _, rfl⟩ := List.mem_map.1 hu
    rfl
  · rintro e w' ⟨v', rfl, ho, _, hb⟩
    refine ⟨v', rfl, ⟨fun k hk => trivial, l0.map (Value.int .i64), ho, ?_⟩, hb⟩
    refine ⟨?_, fun j p hj => ?_⟩
    · show (l0.map (Value.int .i64)).length = l0.length * 1
      simp
    · show (((l0.map (Value.int .i64)).drop (j * 1)).take 1) = [Value.int .i64 p]
      obtain ⟨hlt, rfl⟩ := List.getElem?_eq_some_iff.1 hj
      rw [Nat.mul_one, List.drop_eq_getElem_cons (by simpa using hlt)]
      simp
end Go.Proofs.YtnhepjgnddbhjaaDoor.Q
