/- A system that has just been laid in a variable. -/
import Derived.Test.YtdhhnkhgmoblhaaDoorQhandSpecOk
import Derived.Outline
import Derived.Lib.Hide
namespace Go.Proofs.YtdhhnkhgmoblhaaDoor.Q
open Go.RowKit Go.Proofs.YtdhhnkhgmoblhaaDoorW.PrintWords Go.Proofs.YtdhhnkhgmoblhaaDoorW.PrintLast Go.Proofs.YtdhhnkhgmoblhaaDoorW.PrintMore
open Go.Proofs.YtdhhnkhgmoblhaaDoor.Pure
set_option linter.unusedVariables false

/-- A system that has just been laid in a variable. -/
theorem isS_new {w : World} {A0_0 A0_1 : Option Addr} {c0_0 c0_1 : Nat} {l0_0 : List SG} {l0_1 : List MP} (hr0_0 : Kd.C k56 w A0_0 l0_0.length l0_0) (hr0_1 : Kd.C k59 w A0_1 l0_1.length l0_1) : IsS30 w (w.alloc (.cells #[.slice A0_0 l0_0.length c0_0, .slice A0_1 l0_1.length c0_1] 30)) w.heap.size l0_0 l0_1 :=
  ⟨A0_0, c0_0, A0_1, c0_1, heap_alloc_new w _, Nat.le_refl _, hr0_0, hr0_1⟩

end Go.Proofs.YtdhhnkhgmoblhaaDoor.Q
