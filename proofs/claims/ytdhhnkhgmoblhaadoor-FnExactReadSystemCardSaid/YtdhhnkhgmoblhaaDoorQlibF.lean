/- strings.Fields at every text, in the printed form, out of the shelf. -/
import Derived.Test.YtdhhnkhgmoblhaaDoorQ0
import Derived.Test.YtdhhnkhgmoblhaaDoorGlobF
import Derived.Test.YtdhhnkhgmoblhaaDoorShelfL
import Derived.Test.YtdhhnkhgmoblhaaDoorQpureRS
namespace Go.Proofs.YtdhhnkhgmoblhaaDoor.Q
open Go.RowKit Go.Proofs.YtdhhnkhgmoblhaaDoorW.PrintWords Go.Proofs.YtdhhnkhgmoblhaaDoorW.PrintLast Go.Proofs.YtdhhnkhgmoblhaaDoorW.PrintMore
set_option linter.unusedVariables false

def strings_Fields.f (s : ByteArray) : Option (List ByteArray) := if s.size < 4294967281 then some ((Lib.fieldsD s.data.toList).map fun l => (⟨l.toArray⟩ : ByteArray)) else none
theorem strings_Fields.calls (a0 : ByteArray) (r : List ByteArray) (w : World) (hG_ : GlobF w) (h : strings_Fields.f a0 = some r) :
    Calls Tryd.prog 44 #[.string a0] w fun e w' => ∃ v0_ : Value, e = .returned v0_ ∧ Kd.R Kd.string 9 w' w.heap.size (fun _ => True) v0_ r ∧ Below w.heap.size w w' := by
  unfold strings_Fields.f at h
  split at h
  · rename_i h1
    cases h
    refine (Tryd.strings_Fields_any a0 w h1 hG_.tab hG_.white).mono ?_
    rintro e w' ⟨A, rfl, hA, ho, hb⟩
    have hl : ((Lib.fieldsD a0.data.toList).map fun l => (⟨l.toArray⟩ : ByteArray)).length = (Lib.fieldsD a0.data.toList).length := List.length_map ..
    refine ⟨_, rfl, ?_, hb⟩
    refine Kd.R_of_own (enc := Value.string) (h1 := fun _ => rfl) (xs := (Lib.fieldsD a0.data.toList).map fun l => (⟨l.toArray⟩ : ByteArray)) ?_ (ok := fun _ => True) (fun k hk => trivial)
    have he : encs Value.string ((Lib.fieldsD a0.data.toList).map fun l => (⟨l.toArray⟩ : ByteArray)) = (Lib.fieldsD a0.data.toList).map fun x => Value.string ⟨x.toArray⟩ := by
      unfold encs
      rw [List.map_map]
      rfl
    rw [hl, he]
    exact ho
  · cases h
end Go.Proofs.YtdhhnkhgmoblhaaDoor.Q
