/- spec.ValidSystem by hand: it lays its system in a variable and asks whoever takes its address. -/
import Derived.Test.YtcaidohboacokaaQhandSpecOk
import Derived.Outline
import Derived.Lib.Hide
namespace Go.Proofs.Ytcaidohboacokaa.Q
open Go.RowKit Go.Proofs.YtcaidohboacokaaW.PrintWords Go.Proofs.YtcaidohboacokaaW.PrintLast Go.Proofs.YtcaidohboacokaaW.PrintMore
open Go.Proofs.Ytcaidohboacokaa.Pure
set_option linter.unusedVariables false

/-- A system that has just been laid in a variable. -/
theorem isS_new {w : World} {A0_0 A0_1 : Option Addr} {c0_0 c0_1 : Nat} {l0_0 : List SG} {l0_1 : List MP} (hr0_0 : Kd.C k58 w A0_0 l0_0.length l0_0) (hr0_1 : Kd.C k59 w A0_1 l0_1.length l0_1) : IsS25 w (w.alloc (.cells #[.slice A0_0 l0_0.length c0_0, .slice A0_1 l0_1.length c0_1] 25)) w.heap.size l0_0 l0_1 :=
  ⟨A0_0, c0_0, A0_1, c0_1, heap_alloc_new w _, Nat.le_refl _, hr0_0, hr0_1⟩

def spec_ValidSystem.f (s : List SG) (m : List MP) : Option Bool := spec_l03Ok.f s m
theorem spec_ValidSystem.calls (A0_0 : Option Addr) (c0_0 : Nat) (l0_0 : List SG) (A0_1 : Option Addr) (c0_1 : Nat) (l0_1 : List MP) (r : Bool) (w : World) (hr0_0 : Kd.C k58 w A0_0 l0_0.length l0_0) (hc0_0 : l0_0.length ≤ c0_0) (hr0_1 : Kd.C k59 w A0_1 l0_1.length l0_1) (hc0_1 : l0_1.length ≤ c0_1) (h : spec_ValidSystem.f l0_0 l0_1 = some r) :
    Calls Try.prog 21 #[.agg #[.slice A0_0 l0_0.length c0_0, .slice A0_1 l0_1.length c0_1]] w fun e w' => e = .returned (.bool r) ∧ Below w.heap.size w w' := by
  have HC := Lib.hid (spec_l03Ok.calls w.heap.size l0_0 l0_1 r w _ (isS_new hr0_0 hr0_1 (c0_0 := c0_0) (c0_1 := c0_1)) (below_alloc (Below.refl _ _) _) h)
  clear hr0_0 hr0_1 h
  go_enter Try.func21, Try.ntmps21
  go_wp2_with (go_at_call 51; refine HC.out.mono ?_; rintro e w' ⟨rfl, _, hb, _⟩)
  go_ret
  exact ⟨rfl, hb⟩
end Go.Proofs.Ytcaidohboacokaa.Q
