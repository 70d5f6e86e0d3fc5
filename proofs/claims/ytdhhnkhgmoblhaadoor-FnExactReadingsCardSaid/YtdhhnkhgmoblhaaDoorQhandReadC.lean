/- spec.Readings and impl.Readings, their contracts in the printed form. -/
import Derived.Test.YtdhhnkhgmoblhaaDoorQhandReadings
import Derived.Test.YtdhhnkhgmoblhaaDoorQRead
namespace Go.Proofs.YtdhhnkhgmoblhaaDoor.Q
open Go.RowKit Go.Proofs.YtdhhnkhgmoblhaaDoorW.PrintWords Go.Proofs.YtdhhnkhgmoblhaaDoorW.PrintLast Go.Proofs.YtdhhnkhgmoblhaaDoorW.PrintMore
open Go.Proofs.YtdhhnkhgmoblhaaDoor.Pure
set_option linter.unusedVariables false

def spec_Readings.f (s : List SG) (m : List MP) (t : ByteArray) : Option (List ByteArray × Int) := if s.length ≤ 1048576 ∧ m.length ≤ 1048576 ∧ (s.all (fun x => decide (-32768 ≤ x.f1) && decide (x.f1 ≤ 32767))) = true ∧ t.size ≤ 1048576 then some (readS s m t) else none
def impl_Readings.f (s : List SG) (m : List MP) (t : ByteArray) : Option (List ByteArray × Int) := spec_Readings.f s m t
theorem spec_Readings_some {s : List SG} {m : List MP} {t : ByteArray} {r : List ByteArray × Int} (h : spec_Readings.f s m t = some r) : bigR s m t ∧ readS s m t = r := by
  unfold spec_Readings.f at h
  split at h
  · rename_i hc
    exact ⟨hc, Option.some.inj h⟩
  · cases h
theorem spec_Readings.calls (A0_0 : Option Addr) (c0_0 : Nat) (l0_0 : List SG) (A0_1 : Option Addr) (c0_1 : Nat) (l0_1 : List MP) (a1 : ByteArray) (r1 : List ByteArray) (r2 : Int) (w : World) (hr0_0 : Kd.C k56 w A0_0 l0_0.length l0_0) (hc0_0 : l0_0.length ≤ c0_0) (hr0_1 : Kd.C k59 w A0_1 l0_1.length l0_1) (hc0_1 : l0_1.length ≤ c0_1) (h : spec_Readings.f l0_0 l0_1 a1 = some (r1, r2)) :
    Calls Tryd.prog 14 #[.agg #[.slice A0_0 l0_0.length c0_0, .slice A0_1 l0_1.length c0_1], .string a1] w fun e w' => ∃ v0_ : Value, e = .returned (.tuple #[v0_, .int .i64 r2]) ∧ Kd.R Kd.string 9 w' w.heap.size (fun _ => True) v0_ r1 ∧ Below w.heap.size w w' := by
  obtain ⟨hb, he⟩ := spec_Readings_some h
  have := spec_Readings.callsT A0_0 c0_0 l0_0 A0_1 c0_1 l0_1 a1 w hr0_0 hc0_0 hr0_1 hc0_1 hb
  rw [he] at this
  exact this
theorem impl_Readings.calls (A0_0 : Option Addr) (c0_0 : Nat) (l0_0 : List SG) (A0_1 : Option Addr) (c0_1 : Nat) (l0_1 : List MP) (a1 : ByteArray) (r1 : List ByteArray) (r2 : Int) (w : World) (hG_ : Glob w) (hr0_0 : Kd.C k56 w A0_0 l0_0.length l0_0) (hc0_0 : l0_0.length ≤ c0_0) (hr0_1 : Kd.C k59 w A0_1 l0_1.length l0_1) (hc0_1 : l0_1.length ≤ c0_1) (h : impl_Readings.f l0_0 l0_1 a1 = some (r1, r2)) :
    Calls Tryd.prog 15 #[.agg #[.slice A0_0 l0_0.length c0_0, .slice A0_1 l0_1.length c0_1], .string a1] w fun e w' => ∃ v0_ : Value, e = .returned (.tuple #[v0_, .int .i64 r2]) ∧ Kd.R Kd.string 9 w' w.heap.size (fun _ => True) v0_ r1 ∧ Below w.heap.size w w' := by
  obtain ⟨hb, he⟩ := spec_Readings_some h
  rw [readings_same] at he
  injection he with e1 e2
  have := impl_Readings.callsT A0_0 c0_0 l0_0 A0_1 c0_1 l0_1 a1 w hG_ hr0_0 hc0_0 hr0_1 hc0_1 hb
  rw [e1, e2] at this
  exact this
end Go.Proofs.YtdhhnkhgmoblhaaDoor.Q
