/- impl.ValidList: a list of words. -/
import Derived.Test.YteahgkijaehobaaDoorQhandFunc
import Derived.Test.YteahgkijaehobaaDoorQpureWord
import Derived.Test.YteahgkijaehobaaDoorQimplValidList1
namespace Go.Proofs.YteahgkijaehobaaDoor.Q
open Go.RowKit Go.Proofs.YteahgkijaehobaaDoorW.PrintWords Go.Proofs.YteahgkijaehobaaDoorW.PrintLast Go.Proofs.YteahgkijaehobaaDoorW.PrintMore
set_option linter.unusedVariables false

def impl_ValidList.f (l : List ByteArray) : Option Bool := some (listB l)

theorem list_any (l : List ByteArray) : (!(l.any fun x => !shortB x)) = l.all shortB := by
  rw [← List.not_all_eq_any_not, Bool.not_not]

set_option maxHeartbeats 1000000 in
theorem impl_ValidList.calls (A0 : Option Addr) (c0 : Nat) (l0 : List ByteArray) (r : Bool) (w : World) (hG_ : Glob w) (hr0 : Kd.C Kd.string w A0 l0.length l0) (hc0 : l0.length ≤ c0) (h : impl_ValidList.f l0 = some r) :
    Calls Tryd.prog 19 #[.slice A0 l0.length c0] w fun e w' => e = .returned (.bool r) ∧ Below w.heap.size w w' := by
  obtain rfl := Option.some.inj h
  clear h
  have hm := Kd.C_max hr0
  have HR := Lib.hid hr0
  have HG := Lib.hid hG_
  clear hr0 hG_
  have HX := Lib.hid (list_any l0)
  unfold listB
  by_cases h1 : (l0.length : Int) ≤ 12
  · rw [decide_eq_true h1, Bool.and_true, ← HX.out]
    have h1d : decide ((l0.length : Int) ≤ 12) = true := decide_eq_true h1
    have hcf := contains_func_string 57 #[] (fun x => !shortB x) l0 A0 c0 w (enters_of Tryd.func57 (by kernel_rfl) rfl) HR.out
      (fun x hx W hW => (impl_ValidList_1.calls 61 x (!shortB x) W (HG.out.step hW) (by unfold impl_ValidList_1.f; rw [impl_isShortWord.valM x 61 (by omega)]; rfl)).mono fun e w' ⟨he, hb⟩ => ⟨he, below_step hW hb⟩)
    generalize (l0.any fun x => !shortB x) = q at hcf ⊢
    go_enter Tryd.func19, Tryd.ntmps19
    go_wp2_with (refine hcf.mono ?_; rintro e w' ⟨rfl, hb⟩)
    go_ret
    exact ⟨rfl, hb⟩
  · rw [decide_eq_false h1, Bool.and_false]
    have h1d : decide ((l0.length : Int) ≤ 12) = false := decide_eq_false h1
    go_enter Tryd.func19, Tryd.ntmps19
    go_wp2
    go_ret
    exact ⟨rfl, Below.refl _ _⟩
end Go.Proofs.YteahgkijaehobaaDoor.Q
