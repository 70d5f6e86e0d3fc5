/- strings.Fields on ASCII bytes, in the printed form, out of the shelf. -/
import Derived.Test.YtiapaggkbhdnkaaDoorQ0
import Derived.Test.YtiapaggkbhdnkaaDoorGlobF
namespace Go.Proofs.YtiapaggkbhdnkaaDoor.Q
open Go.RowKit Go.Proofs.YtiapaggkbhdnkaaDoorW.PrintWords Go.Proofs.YtiapaggkbhdnkaaDoorW.PrintLast Go.Proofs.YtiapaggkbhdnkaaDoorW.PrintMore
set_option linter.unusedVariables false

def strings_Fields.f (s : ByteArray) : Option (List ByteArray) := if s.size < 4294967281 ∧ s.data.toList.all (fun b => decide (b.toNat < 128)) = true ∧ (Lib.fields s.data.toList).length ≤ 9223372036854775807 then some ((Lib.fields s.data.toList).map fun l => (⟨l.toArray⟩ : ByteArray)) else none

/-- A row of texts that has just been laid. -/
theorem R_laid (w : World) (xs : List ByteArray) (hm : xs.length ≤ 9223372036854775807) : Kd.R Kd.string 9 (w.alloc (.cells (xs.map Value.string).toArray 9)) w.heap.size (fun _ => True) (.slice (some ⟨w.heap.size, 0, none⟩) xs.length xs.length) xs := by
  have hrep : Reps (Kd.string.M w w.heap.size (fun _ => True)) Kd.string.sz xs (xs.map Value.string) := by
    refine ⟨?_, fun j p hj => ?_⟩
    · show (xs.map Value.string).length = xs.length * 1
      simp
    · show (((xs.map Value.string).drop (j * 1)).take 1) = [Value.string p]
      obtain ⟨hl, rfl⟩ := List.getElem?_eq_some_iff.1 hj
      rw [Nat.mul_one, List.drop_eq_getElem_cons (by simpa using hl)]
      simp
  refine ⟨fun k hk => trivial, xs.map Value.string, ?_, ?_⟩
  · have h2 := World.ownsRow_lit (base := w.heap.size) (e := 9) (size := Kd.string.sz) w (xs.map Value.string).toArray xs.length (Nat.le_refl _) (by simpa [maxLen] using hm) (by simpa using hrep.1)
    simpa using h2
  · refine hrep.imp_ (fun p c hp => Kd.string.M_mono (fun k hk => ⟨trivial, fun he => ?_⟩) (Kd.M_below (Kd.string.M_bound hp) (below_alloc (Below.refl _ _) _)))
    have h3 : k = w.heap.size := by simpa [Value.ownBlock] using he
    have := hk.2.2.1
    omega

theorem strings_Fields.calls (a0 : ByteArray) (r : List ByteArray) (w : World) (hG_ : GlobF w) (h : strings_Fields.f a0 = some r) :
    Calls Tryd.prog 49 #[.string a0] w fun e w' => ∃ v0_ : Value, e = .returned v0_ ∧ Kd.R Kd.string 9 w' w.heap.size (fun _ => True) v0_ r ∧ Below w.heap.size w w' := by
  unfold strings_Fields.f at h
  split at h
  · rename_i hc
    obtain ⟨h1, h2, h3⟩ := hc
    cases h
    refine (Tryd.strings_Fields_laid a0 w h1 (fun j b hb => ?_) hG_.tab).mono ?_
    · have := List.all_eq_true.1 h2 b (List.mem_of_getElem? hb)
      exact of_decide_eq_true this
    · rintro e w' ⟨rfl, rfl⟩
      have hR := R_laid w ((Lib.fields a0.data.toList).map fun l => (⟨l.toArray⟩ : ByteArray)) (by simpa using h3)
      rw [List.length_map, List.map_map] at hR
      exact ⟨_, rfl, hR, below_alloc (Below.refl _ _) _⟩
  · cases h
end Go.Proofs.YtiapaggkbhdnkaaDoor.Q
