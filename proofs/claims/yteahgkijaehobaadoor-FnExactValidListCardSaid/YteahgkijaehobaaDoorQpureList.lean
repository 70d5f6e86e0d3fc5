/- The law ValidList holds. -/
import Derived.Test.YteahgkijaehobaaDoorQlawsFnExactValidList
import Derived.Test.YteahgkijaehobaaDoorQpureLaw
import Derived.Test.YteahgkijaehobaaDoorQpureWord
namespace Go.Proofs.YteahgkijaehobaaDoor.Q
open Go.RowKit Go.Proofs.YteahgkijaehobaaDoorW.PrintWords Go.Proofs.YteahgkijaehobaaDoorW.PrintLast Go.Proofs.YteahgkijaehobaaDoorW.PrintMore
open Go.Proofs.YteahgkijaehobaaDoor.Pure
set_option linter.unusedVariables false

theorem laws_FnExactValidList.holds (l : List ByteArray) (A : Option Addr) (c : Nat) (W : World) (hG : Glob W) (hr : Kd.C Kd.string W A l.length l) (hc : l.length ≤ c) (hs : ∀ x ∈ l, x.size ≤ 9223372036854775807) :
    Calls Tryd.prog 4 #[.slice A l.length c] W fun e w' => e = .returned (.bool true) ∧ Below W.heap.size W w' := by
  have hm := Kd.C_max hr
  refine laws_FnExactValidList.calls (l.length + 30) A c l true W hG hr hc ?_
  obtain ⟨r, h1, h2⟩ := laws_szStringS.val l hm hs 1048576 (by omega) (by omega)
  unfold laws_FnExactValidList.f
  rw [at_rounds (laws_szStringS.mono l 1048576) (by omega) h1]
  simp only [Option.bind_some]
  by_cases h : r < 0
  · rw [if_pos h]
  · rw [if_neg h]
    have hl : l.length ≤ 1048576 := by omega
    rw [at_rounds (laws_toStringS.mono l) (by omega) (laws_toStringS.val l (by omega))]
    simp only [Option.bind_some]
    unfold spec_ValidList.f impl_ValidList.f
    rw [spec_l04List.val l hm _ (by omega), at_rounds (laws_eqStringS.mono l l) (by omega) (laws_eqStringS.val l l hm)]
    simp
end Go.Proofs.YteahgkijaehobaaDoor.Q
