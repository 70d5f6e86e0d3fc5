/- spec.CountRight and impl.CountRight in the form of the printed texts. -/
import Derived.Test.YtnacfljfalkonaaQhandCountS
import Derived.Test.YtnacfljfalkonaaQhandCountI
namespace Go.Proofs.Ytnacfljfalkonaa.Q
open Go.RowKit Go.Proofs.YtnacfljfalkonaaW.PrintWords Go.Proofs.YtnacfljfalkonaaW.PrintLast Go.Proofs.YtnacfljfalkonaaW.PrintMore
open Go.Proofs.Ytnacfljfalkonaa.Pure
set_option linter.unusedVariables false

def spec_CountRight.f (s : List SG) (m : List MP) (n long : Int) : Option (Int × Int) := if s.length ≤ 1048576 ∧ m.length ≤ 1048576 ∧ (s.all (fun x => decide (-32768 ≤ x.f1) && decide (x.f1 ≤ 32767))) = true then some (countR s m n long) else none
def impl_CountRight.f (s : List SG) (m : List MP) (n long : Int) : Option (Int × Int) := spec_CountRight.f s m n long
theorem spec_CountRight.calls (A0_0 : Option Addr) (c0_0 : Nat) (l0_0 : List SG) (A0_1 : Option Addr) (c0_1 : Nat) (l0_1 : List MP) (a1 a2 : Int) (r1 r2 : Int) (w : World) (hr0_0 : Kd.C k77 w A0_0 l0_0.length l0_0) (hc0_0 : l0_0.length ≤ c0_0) (hr0_1 : Kd.C k79 w A0_1 l0_1.length l0_1) (hc0_1 : l0_1.length ≤ c0_1) (h : spec_CountRight.f l0_0 l0_1 a1 a2 = some (r1, r2)) :
    Calls Try.prog 10 #[.agg #[.slice A0_0 l0_0.length c0_0, .slice A0_1 l0_1.length c0_1], .int .i64 a1, .int .i64 a2] w fun e w' => e = .returned (.tuple #[.int .i64 r1, .int .i64 r2]) ∧ Below w.heap.size w w' := by
  unfold spec_CountRight.f at h
  split at h
  · rename_i hc
    exact specCountC A0_0 c0_0 l0_0 A0_1 c0_1 l0_1 a1 a2 w hr0_0 hr0_1 hc.1 hc.2.1 hc.2.2 r1 r2 (Option.some.inj h)
  · cases h
theorem impl_CountRight.calls (A0_0 : Option Addr) (c0_0 : Nat) (l0_0 : List SG) (A0_1 : Option Addr) (c0_1 : Nat) (l0_1 : List MP) (a1 a2 : Int) (r1 r2 : Int) (w : World) (hr0_0 : Kd.C k77 w A0_0 l0_0.length l0_0) (hc0_0 : l0_0.length ≤ c0_0) (hr0_1 : Kd.C k79 w A0_1 l0_1.length l0_1) (hc0_1 : l0_1.length ≤ c0_1) (h : impl_CountRight.f l0_0 l0_1 a1 a2 = some (r1, r2)) :
    Calls Try.prog 11 #[.agg #[.slice A0_0 l0_0.length c0_0, .slice A0_1 l0_1.length c0_1], .int .i64 a1, .int .i64 a2] w fun e w' => e = .returned (.tuple #[.int .i64 r1, .int .i64 r2]) ∧ Below w.heap.size w w' := by
  unfold impl_CountRight.f spec_CountRight.f at h
  split at h
  · rename_i hc
    exact implCountC A0_0 c0_0 l0_0 A0_1 c0_1 l0_1 a1 a2 w hr0_0 hc0_0 hr0_1 hc0_1 hc.1 hc.2.1 hc.2.2 r1 r2 (Option.some.inj h)
  · cases h
end Go.Proofs.Ytnacfljfalkonaa.Q
