/- spec.ReadingsBetween and impl.ReadingsBetween, their contracts in the printed form. -/
import Derived.Test.YtdhhnkhgmoblhaaGreatDoorQhandBetween
namespace Go.Proofs.YtdhhnkhgmoblhaaGreatDoor.Q
open Go.RowKit Go.Proofs.YtdhhnkhgmoblhaaGreatDoorW.PrintWords Go.Proofs.YtdhhnkhgmoblhaaGreatDoorW.PrintLast Go.Proofs.YtdhhnkhgmoblhaaGreatDoorW.PrintMore
open Go.Proofs.YtdhhnkhgmoblhaaGreatDoor.Pure
set_option linter.unusedVariables false

def spec_ReadingsBetween.f (s : List SG) (m : List MP) (t : ByteArray) (lo hi : Int) : Option (List ByteArray × Int) := if s.length ≤ 1048576 ∧ m.length ≤ 1048576 ∧ (s.all (fun x => decide (-32768 ≤ x.f1) && decide (x.f1 ≤ 32767))) = true ∧ t.size ≤ 1048576 then some (betweenS s m t lo hi) else none
def impl_ReadingsBetween.f (s : List SG) (m : List MP) (t : ByteArray) (lo hi : Int) : Option (List ByteArray × Int) := spec_ReadingsBetween.f s m t lo hi
theorem spec_ReadingsBetween_some {s : List SG} {m : List MP} {t : ByteArray} {lo hi : Int} {r : List ByteArray × Int} (h : spec_ReadingsBetween.f s m t lo hi = some r) : bigR s m t ∧ betweenS s m t lo hi = r := by
  unfold spec_ReadingsBetween.f at h
  split at h
  · rename_i hc
    exact ⟨hc, Option.some.inj h⟩
  · cases h
theorem spec_ReadingsBetween.calls (A0_0 : Option Addr) (c0_0 : Nat) (l0_0 : List SG) (A0_1 : Option Addr) (c0_1 : Nat) (l0_1 : List MP) (a1 : ByteArray) (a2 a3 : Int) (r1 : List ByteArray) (r2 : Int) (w : World) (hr0_0 : Kd.C k76 w A0_0 l0_0.length l0_0) (hc0_0 : l0_0.length ≤ c0_0) (hr0_1 : Kd.C k79 w A0_1 l0_1.length l0_1) (hc0_1 : l0_1.length ≤ c0_1) (h : spec_ReadingsBetween.f l0_0 l0_1 a1 a2 a3 = some (r1, r2)) :
    Calls Tryz.prog 6 #[.agg #[.slice A0_0 l0_0.length c0_0, .slice A0_1 l0_1.length c0_1], .string a1, .int .i64 a2, .int .i64 a3] w fun e w' => ∃ v0_ : Value, e = .returned (.tuple #[v0_, .int .i64 r2]) ∧ Kd.R Kd.string 9 w' w.heap.size (fun _ => True) v0_ r1 ∧ Below w.heap.size w w' := by
  obtain ⟨hb, he⟩ := spec_ReadingsBetween_some h
  have := spec_ReadingsBetween.callsT A0_0 c0_0 l0_0 A0_1 c0_1 l0_1 a1 a2 a3 w hr0_0 hc0_0 hr0_1 hc0_1 hb
  rw [he] at this
  exact this
theorem impl_ReadingsBetween.calls (A0_0 : Option Addr) (c0_0 : Nat) (l0_0 : List SG) (A0_1 : Option Addr) (c0_1 : Nat) (l0_1 : List MP) (a1 : ByteArray) (a2 a3 : Int) (r1 : List ByteArray) (r2 : Int) (w : World) (hG_ : Glob w) (hr0_0 : Kd.C k76 w A0_0 l0_0.length l0_0) (hc0_0 : l0_0.length ≤ c0_0) (hr0_1 : Kd.C k79 w A0_1 l0_1.length l0_1) (hc0_1 : l0_1.length ≤ c0_1) (h : impl_ReadingsBetween.f l0_0 l0_1 a1 a2 a3 = some (r1, r2)) :
    Calls Tryz.prog 8 #[.agg #[.slice A0_0 l0_0.length c0_0, .slice A0_1 l0_1.length c0_1], .string a1, .int .i64 a2, .int .i64 a3] w fun e w' => ∃ v0_ : Value, e = .returned (.tuple #[v0_, .int .i64 r2]) ∧ Kd.R Kd.string 9 w' w.heap.size (fun _ => True) v0_ r1 ∧ Below w.heap.size w w' := by
  obtain ⟨hb, he⟩ := spec_ReadingsBetween_some h
  have := impl_ReadingsBetween.callsT A0_0 c0_0 l0_0 A0_1 c0_1 l0_1 a1 a2 a3 w hG_ hr0_0 hc0_0 hr0_1 hc0_1 hb
  rw [he] at this
  exact this
end Go.Proofs.YtdhhnkhgmoblhaaGreatDoor.Q
