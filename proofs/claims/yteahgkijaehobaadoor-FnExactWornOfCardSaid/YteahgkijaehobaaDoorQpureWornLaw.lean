/- The law WornOf holds. -/
import Derived.Test.YteahgkijaehobaaDoorQlawsFnExactWornOf
import Derived.Test.YteahgkijaehobaaDoorQpureLaw
namespace Go.Proofs.YteahgkijaehobaaDoor.Q
open Go.RowKit Go.Proofs.YteahgkijaehobaaDoorW.PrintWords Go.Proofs.YteahgkijaehobaaDoorW.PrintLast Go.Proofs.YteahgkijaehobaaDoorW.PrintMore
open Go.Proofs.YteahgkijaehobaaDoor.Pure
set_option linter.unusedVariables false

theorem laws_FnExactWornOf.holds (a : ByteArray) (l : List Int) (A : Option Addr) (c : Nat) (W : World) (hG : Glob W) (hr : Kd.C (Kd.int .i64) W A l.length l) (hc : l.length ≤ c) (ha : a.size ≤ 9223372036854775807) :
    Calls Tryd.prog 5 #[.string a, .slice A l.length c] W fun e w' => e = .returned (.bool true) ∧ Below W.heap.size W w' := by
  have hm := Kd.C_max hr
  refine laws_FnExactWornOf.calls (l.length + 3) a A c l true W hG hr hc ?_
  unfold laws_FnExactWornOf.f
  by_cases h : (a.size : Int) > 1048576
  · rw [if_pos h]
  rw [if_neg h]
  by_cases h : (l.length : Int) > 1048576
  · rw [if_pos h]
  rw [if_neg h]
  have h1 : ∀ k, l.length < k → laws_toInt64S.f k l = some l := fun k hk => at_rounds (laws_toInt64S.mono l) (by omega) (laws_toInt64S.val l (by omega))
  have h2 : ∀ k, l.length < k → laws_eqInt64S.f k l l = some true := fun k hk => by
    rw [at_rounds (laws_eqInt64S.mono l l) (by omega) (laws_eqInt64S.val l l (by omega))]
    simp
  rw [h1 _ (by omega)]
  unfold spec_WornOf.f impl_WornOf.f
  simp only [Option.bind_some, bne_self_eq_false, if_true]
  show laws_FnExactWornOf.j0 (l.length + 2 + 1) _ _ _ = _
  simp only [laws_FnExactWornOf.j0, Bool.false_eq_true, if_false]
  rw [h1 _ (by omega)]
  simp only [Option.bind_some]
  rw [h2 _ (by omega)]
  rfl
end Go.Proofs.YteahgkijaehobaaDoor.Q
