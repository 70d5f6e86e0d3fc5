/- A pair that comes in, read as data; no condition. -/
import Derived.Test.YtjaamcedgdhilaaQopenFace
import Derived.Test.YtjaamcedgdhilaaQhandLawKit
namespace Go.Proofs.Ytjaamcedgdhilaa.Open
open Go.RowKit Go.Proofs.YtjaamcedgdhilaaW.PrintWords Go.Proofs.Ytjaamcedgdhilaa.Q
open Go.ChangeShapes Go.WideShapes Go.ChangeAt Go.Deep Go.Joins
set_option linter.unusedVariables false

theorem open_pair {H : Type} {enc : TypeId × Value → H} {r : Reach} {b0 : Nat} {W : World} {base : Nat} {spare : Nat → Bool} {held : Bool} {v : Value} {y : DataW H} {p : List MemPlace}
    (hv : Value.okWide Try.prog W r b0 44 v) (h : DataW.Trod enc Try.prog W base spare held 44 v y p) :
    ∃ q : S44, v = .agg #[.int .u8 q.f0, .int .u8 q.f1, .int .i8 q.f2] ∧ (-128 ≤ q.f2 ∧ q.f2 ≤ 127) := by
  obtain ⟨a, cs, rfl, k, g⟩ := open_agg opens_pair Try.underlying44 hv h
  exact ⟨a, by rw [k44_open k], wf8 g.2.2⟩
end Go.Proofs.Ytjaamcedgdhilaa.Open
