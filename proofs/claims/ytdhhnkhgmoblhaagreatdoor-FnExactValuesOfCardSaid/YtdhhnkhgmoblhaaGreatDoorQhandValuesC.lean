/- spec.ValuesOf and impl.ValuesOf, their contracts in the printed form. -/
import Derived.Test.YtdhhnkhgmoblhaaGreatDoorQhandValues
namespace Go.Proofs.YtdhhnkhgmoblhaaGreatDoor.Q
open Go.RowKit Go.Proofs.YtdhhnkhgmoblhaaGreatDoorW.PrintWords Go.Proofs.YtdhhnkhgmoblhaaGreatDoorW.PrintLast Go.Proofs.YtdhhnkhgmoblhaaGreatDoorW.PrintMore
open Go.Proofs.YtdhhnkhgmoblhaaGreatDoor.Pure
set_option linter.unusedVariables false

def spec_ValuesOf.f (s : List SG) (m : List MP) (t : ByteArray) : Option (List Int × Int) := if s.length ≤ 1048576 ∧ m.length ≤ 1048576 ∧ (s.all (fun x => decide (-32768 ≤ x.f1) && decide (x.f1 ≤ 32767))) = true ∧ t.size ≤ 1048576 then some (valuesS s m t) else none
def impl_ValuesOf.f (s : List SG) (m : List MP) (t : ByteArray) : Option (List Int × Int) := spec_ValuesOf.f s m t
theorem spec_ValuesOf_some {s : List SG} {m : List MP} {t : ByteArray} {r : List Int × Int} (h : spec_ValuesOf.f s m t = some r) : bigR s m t ∧ valuesS s m t = r := by
  unfold spec_ValuesOf.f at h
  split at h
  · rename_i hc
    exact ⟨hc, Option.some.inj h⟩
  · cases h
theorem spec_ValuesOf.calls (A0_0 : Option Addr) (c0_0 : Nat) (l0_0 : List SG) (A0_1 : Option Addr) (c0_1 : Nat) (l0_1 : List MP) (a1 : ByteArray) (r1 : List Int) (r2 : Int) (w : World) (hr0_0 : Kd.C k76 w A0_0 l0_0.length l0_0) (hc0_0 : l0_0.length ≤ c0_0) (hr0_1 : Kd.C k79 w A0_1 l0_1.length l0_1) (hc0_1 : l0_1.length ≤ c0_1) (h : spec_ValuesOf.f l0_0 l0_1 a1 = some (r1, r2)) :
    Calls Tryz.prog 14 #[.agg #[.slice A0_0 l0_0.length c0_0, .slice A0_1 l0_1.length c0_1], .string a1] w fun e w' => ∃ v0_ : Value, e = .returned (.tuple #[v0_, .int .i64 r2]) ∧ Kd.R (Kd.int .i64) 2 w' w.heap.size (fun _ => True) v0_ r1 ∧ Below w.heap.size w w' := by
  obtain ⟨hb, he⟩ := spec_ValuesOf_some h
  have := spec_ValuesOf.callsT A0_0 c0_0 l0_0 A0_1 c0_1 l0_1 a1 w hr0_0 hc0_0 hr0_1 hc0_1 hb
  rw [he] at this
  exact this
theorem impl_ValuesOf.calls (A0_0 : Option Addr) (c0_0 : Nat) (l0_0 : List SG) (A0_1 : Option Addr) (c0_1 : Nat) (l0_1 : List MP) (a1 : ByteArray) (r1 : List Int) (r2 : Int) (w : World) (hG_ : Glob w) (hr0_0 : Kd.C k76 w A0_0 l0_0.length l0_0) (hc0_0 : l0_0.length ≤ c0_0) (hr0_1 : Kd.C k79 w A0_1 l0_1.length l0_1) (hc0_1 : l0_1.length ≤ c0_1) (h : impl_ValuesOf.f l0_0 l0_1 a1 = some (r1, r2)) :
    Calls Tryz.prog 15 #[.agg #[.slice A0_0 l0_0.length c0_0, .slice A0_1 l0_1.length c0_1], .string a1] w fun e w' => ∃ v0_ : Value, e = .returned (.tuple #[v0_, .int .i64 r2]) ∧ Kd.R (Kd.int .i64) 2 w' w.heap.size (fun _ => True) v0_ r1 ∧ Below w.heap.size w w' := by
  obtain ⟨hb, he⟩ := spec_ValuesOf_some h
  have := impl_ValuesOf.callsT A0_0 c0_0 l0_0 A0_1 c0_1 l0_1 a1 w hG_ hr0_0 hc0_0 hr0_1 hc0_1 hb
  rw [he] at this
  exact this
end Go.Proofs.YtdhhnkhgmoblhaaGreatDoor.Q
