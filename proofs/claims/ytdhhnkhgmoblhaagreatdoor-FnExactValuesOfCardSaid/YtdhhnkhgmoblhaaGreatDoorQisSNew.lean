/- A system that has just been laid in a variable. -/
import Derived.Test.YtdhhnkhgmoblhaaGreatDoorQhandSpecOk
import Derived.Outline
import Derived.Lib.Hide
namespace Go.Proofs.YtdhhnkhgmoblhaaGreatDoor.Q
open Go.RowKit Go.Proofs.YtdhhnkhgmoblhaaGreatDoorW.PrintWords Go.Proofs.YtdhhnkhgmoblhaaGreatDoorW.PrintLast Go.Proofs.YtdhhnkhgmoblhaaGreatDoorW.PrintMore
open Go.Proofs.YtdhhnkhgmoblhaaGreatDoor.Pure
set_option linter.unusedVariables false

/-- A system that has just been laid in a variable. -/
theorem isS_new {w : World} {A0_0 A0_1 : Option Addr} {c0_0 c0_1 : Nat} {l0_0 : List SG} {l0_1 : List MP} (hr0_0 : Kd.C k76 w A0_0 l0_0.length l0_0) (hr0_1 : Kd.C k79 w A0_1 l0_1.length l0_1) : IsS32 w (w.alloc (.cells #[.slice A0_0 l0_0.length c0_0, .slice A0_1 l0_1.length c0_1] 32)) w.heap.size l0_0 l0_1 :=
  ⟨A0_0, c0_0, A0_1, c0_1, heap_alloc_new w _, Nat.le_refl _, hr0_0, hr0_1⟩

end Go.Proofs.YtdhhnkhgmoblhaaGreatDoor.Q
