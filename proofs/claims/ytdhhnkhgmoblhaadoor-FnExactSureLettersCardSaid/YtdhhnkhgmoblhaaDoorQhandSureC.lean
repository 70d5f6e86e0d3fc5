/- spec.SureLetters and impl.SureLetters, their contracts in the printed form. -/
import Derived.Test.YtdhhnkhgmoblhaaDoorQhandSure2
namespace Go.Proofs.YtdhhnkhgmoblhaaDoor.Q
open Go.RowKit Go.Proofs.YtdhhnkhgmoblhaaDoorW.PrintWords Go.Proofs.YtdhhnkhgmoblhaaDoorW.PrintLast Go.Proofs.YtdhhnkhgmoblhaaDoorW.PrintMore
open Go.Proofs.YtdhhnkhgmoblhaaDoor.Pure
set_option linter.unusedVariables false

def spec_SureLetters.f (s : List SG) (m : List MP) (t : ByteArray) : Option (ByteArray × Int) := if s.length ≤ 1048576 ∧ m.length ≤ 1048576 ∧ (s.all (fun x => decide (-32768 ≤ x.f1) && decide (x.f1 ≤ 32767))) = true ∧ t.size ≤ 1048576 then some (sureS s m t) else none
def impl_SureLetters.f (s : List SG) (m : List MP) (t : ByteArray) : Option (ByteArray × Int) := spec_SureLetters.f s m t
theorem spec_SureLetters_some {s : List SG} {m : List MP} {t : ByteArray} {r : ByteArray × Int} (h : spec_SureLetters.f s m t = some r) : bigR s m t ∧ sureS s m t = r := by
  unfold spec_SureLetters.f at h
  split at h
  · rename_i hc
    exact ⟨hc, Option.some.inj h⟩
  · cases h
theorem spec_SureLetters.calls (A0_0 : Option Addr) (c0_0 : Nat) (l0_0 : List SG) (A0_1 : Option Addr) (c0_1 : Nat) (l0_1 : List MP) (a1 : ByteArray) (r1 : ByteArray) (r2 : Int) (w : World) (hr0_0 : Kd.C k56 w A0_0 l0_0.length l0_0) (hc0_0 : l0_0.length ≤ c0_0) (hr0_1 : Kd.C k59 w A0_1 l0_1.length l0_1) (hc0_1 : l0_1.length ≤ c0_1) (h : spec_SureLetters.f l0_0 l0_1 a1 = some (r1, r2)) :
    Calls Tryd.prog 12 #[.agg #[.slice A0_0 l0_0.length c0_0, .slice A0_1 l0_1.length c0_1], .string a1] w fun e w' => e = .returned (.tuple #[.string r1, .int .i64 r2]) ∧ Below w.heap.size w w' := by
  obtain ⟨hb, he⟩ := spec_SureLetters_some h
  have := spec_SureLetters.callsT A0_0 c0_0 l0_0 A0_1 c0_1 l0_1 a1 w hr0_0 hc0_0 hr0_1 hc0_1 hb
  rw [he] at this
  exact this
theorem impl_SureLetters.calls (A0_0 : Option Addr) (c0_0 : Nat) (l0_0 : List SG) (A0_1 : Option Addr) (c0_1 : Nat) (l0_1 : List MP) (a1 : ByteArray) (r1 : ByteArray) (r2 : Int) (w : World) (hG_ : Glob w) (hr0_0 : Kd.C k56 w A0_0 l0_0.length l0_0) (hc0_0 : l0_0.length ≤ c0_0) (hr0_1 : Kd.C k59 w A0_1 l0_1.length l0_1) (hc0_1 : l0_1.length ≤ c0_1) (h : impl_SureLetters.f l0_0 l0_1 a1 = some (r1, r2)) :
    Calls Tryd.prog 13 #[.agg #[.slice A0_0 l0_0.length c0_0, .slice A0_1 l0_1.length c0_1], .string a1] w fun e w' => e = .returned (.tuple #[.string r1, .int .i64 r2]) ∧ Below w.heap.size w w' := by
  obtain ⟨hb, he⟩ := spec_SureLetters_some h
  have := impl_SureLetters.callsT A0_0 c0_0 l0_0 A0_1 c0_1 l0_1 a1 w hG_ hr0_0 hc0_0 hr0_1 hc0_1 hb
  rw [he] at this
  exact this
end Go.Proofs.YtdhhnkhgmoblhaaDoor.Q
