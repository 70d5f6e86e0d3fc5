-- Joined by joinmods.py out of: QlibF QlibSplit
import Derived.Test.YtkldhleiipfaaaaDoorQ0
import Derived.Test.YtkldhleiipfaaaaDoorGlobF
import Derived.Test.YtkldhleiipfaaaaDoorShelfL
import Derived.Test.YtkldhleiipfaaaaDoorQpureRS
import Derived.Lib.SplitLaws
section
/- strings.Fields at every text, in the printed form, out of the shelf. -/
namespace Go.Proofs.YtkldhleiipfaaaaDoor.Q
open Go.RowKit Go.Proofs.YtkldhleiipfaaaaDoorW.PrintWords Go.Proofs.YtkldhleiipfaaaaDoorW.PrintLast Go.Proofs.YtkldhleiipfaaaaDoorW.PrintMore
set_option linter.unusedVariables false

def strings_Fields.f (s : ByteArray) : Option (List ByteArray) := if s.size < 4294967281 then some ((Lib.fieldsD s.data.toList).map fun l => (⟨l.toArray⟩ : ByteArray)) else none
theorem strings_Fields.calls (a0 : ByteArray) (r : List ByteArray) (w : World) (hG_ : GlobF w) (h : strings_Fields.f a0 = some r) :
    Calls Tryd.prog 31 #[.string a0] w fun e w' => ∃ v0_ : Value, e = .returned v0_ ∧ Kd.R Kd.string 9 w' w.heap.size (fun _ => True) v0_ r ∧ Below w.heap.size w w' := by
  unfold strings_Fields.f at h
  split at h
  · rename_i h1
    cases h
    refine (Tryd.strings_Fields_any a0 w h1 hG_.tab hG_.white).mono ?_
    rintro e w' ⟨A, rfl, hA, ho, hb⟩
    have hl : ((Lib.fieldsD a0.data.toList).map fun l => (⟨l.toArray⟩ : ByteArray)).length = (Lib.fieldsD a0.data.toList).length := List.length_map ..
    refine ⟨_, rfl, ?_, hb⟩
    refine Kd.R_of_own (enc := Value.string) (h1 := fun _ => rfl) (xs := (Lib.fieldsD a0.data.toList).map fun l => (⟨l.toArray⟩ : ByteArray)) ?_ (ok := fun _ => True) (fun k hk => trivial)
    have he : encs Value.string ((Lib.fieldsD a0.data.toList).map fun l => (⟨l.toArray⟩ : ByteArray)) = (Lib.fieldsD a0.data.toList).map fun x => Value.string ⟨x.toArray⟩ := by
      unfold encs
      rw [List.map_map]
      rfl
    rw [hl, he]
    exact ho
  · cases h
end Go.Proofs.YtkldhleiipfaaaaDoor.Q
end
section
/- strings.Split at a separator that is not empty, in the printed form, out of the shelf. -/
namespace Go.Proofs.YtkldhleiipfaaaaDoor.Q
open Go.RowKit Go.Proofs.YtkldhleiipfaaaaDoorW.PrintWords Go.Proofs.YtkldhleiipfaaaaDoorW.PrintLast Go.Proofs.YtkldhleiipfaaaaDoorW.PrintMore
set_option linter.unusedVariables false

theorem R_laid (w : World) (xs : List ByteArray) (hm : xs.length ≤ 9223372036854775807) : Kd.R Kd.string 9 (w.alloc (.cells (xs.map Value.string).toArray 9)) w.heap.size (fun _ => True) (.slice (some ⟨w.heap.size, 0, none⟩) xs.length xs.length) xs := by
  have hrep : Reps (Kd.string.M w w.heap.size (fun _ => True)) Kd.string.sz xs (xs.map Value.string) := by
    refine ⟨?_, fun j p hj => ?_⟩
    · show (xs.map Value.string).length = xs.length * 1
      simp
    · show (((xs.map Value.string).drop (j * 1)).take 1) = [Value.string p]
      obtain ⟨hl, rfl⟩ := List.getElem?_eq_some_iff.1 hj
      rw [Nat.mul_one, List.drop_eq_getElem_cons (by simpa using hl)]
      simp
  refine ⟨fun k hk => trivial, xs.map Value.string, ?_, ?_⟩
  · have h2 := World.ownsRow_lit (base := w.heap.size) (e := 9) (size := Kd.string.sz) w (xs.map Value.string).toArray xs.length (Nat.le_refl _) (by simpa [maxLen] using hm) (by simpa using hrep.1)
    simpa using h2
  · refine hrep.imp_ (fun p c hp => Kd.string.M_mono (fun k hk => ⟨trivial, fun he => ?_⟩) (Kd.M_below (Kd.string.M_bound hp) (below_alloc (Below.refl _ _) _)))
    have h3 : k = w.heap.size := by simpa [Value.ownBlock] using he
    have := hk.2.2.1
    omega

def strings_Split.f (s sep : ByteArray) : Option (List ByteArray) := if s.size < 4294967281 ∧ 1 ≤ sep.size then some (Lib.splitB sep 0 (Lib.countB s sep) s) else none
theorem strings_Split.calls (a0 a1 : ByteArray) (r : List ByteArray) (w : World) (hG_ : Glob w) (h : strings_Split.f a0 a1 = some r) :
    Calls Tryd.prog 28 #[.string a0, .string a1] w fun e w' => ∃ v0_ : Value, e = .returned v0_ ∧ Kd.R Kd.string 9 w' w.heap.size (fun _ => True) v0_ r ∧ Below w.heap.size w w' := by
  unfold strings_Split.f at h
  split at h
  · rename_i hc
    obtain ⟨h1, h2⟩ := hc
    cases h
    obtain ⟨m, hm⟩ := hG_.maxLen
    have hl := Lib.splitB_all a1 h2 0 _ a0 rfl
    have hle := Lib.countB_le a1 h2 _ a0 (Nat.le_refl _)
    refine (Tryd.strings_Split a0 a1 m w h1 hm h2).mono ?_
    rintro e w' ⟨rfl, rfl⟩
    have hR := R_laid w (Lib.splitB a1 0 (Lib.countB a0 a1) a0) (by omega)
    rw [hl] at hR
    exact ⟨_, rfl, hR, below_alloc (Below.refl _ _) _⟩
  · cases h
end Go.Proofs.YtkldhleiipfaaaaDoor.Q
end
