/- The law FnExactCanJoin holds: for all two pieces the program's CanJoin answers as the reference's. No condition. -/
import Derived.Test.YtebjimbcjigekaaRows
import Derived.Test.YtebjimbcjigekaaPFnExactCanJoinx1
import Derived.Test.YtebjimbcjigekaaOpen
import Derived.WalkKit
import Derived.ProofKit
import Derived.OpenShut
import Derived.ShutString
import Derived.ChangeOld
import Derived.Below
import Derived.SizedLaws
import Derived.Test.YtebjimbcjigekaaWSized
namespace Go.Proofs.Ytebjimbcjigekaa.fnExactCanJoin
open Go.ChangeShapes Go.WideShapes Go.ChangeAt Go.RowKit
open Go.Proofs.Ytebjimbcjigekaa.Open Go.Proofs.YtebjimbcjigekaaW.PrintWords Go.Proofs.Ytebjimbcjigekaa.PFnExactCanJoin
set_option linter.unusedVariables false

theorem wrap_id {n : Int} (h0 : -9223372036854775808 ≤ n) (h1 : n ≤ 9223372036854775807) : wrap64 n = n := by unfold wrap64; omega

theorem pure_law (a0 : ByteArray) (a1 a2 : Int) (b0 : ByteArray) (b1 b2 : Int) (ha : a0.size ≤ 9223372036854775807) (hb : b0.size ≤ 9223372036854775807) :
    laws_FnExactCanJoin.f a0 a1 a2 b0 b1 b2 = some true := by
  unfold laws_FnExactCanJoin.f laws_szPiece.f
  rw [wrap_id (n := 1048576 - (a0.size : Int)) (by omega) (by omega)]
  by_cases h1 : (1048576 : Int) - (a0.size : Int) < 0
  · simp [h1]
  · rw [if_neg h1]
    simp only [Option.bind_some, if_neg h1]
    rw [wrap_id (by omega) (by omega)]
    by_cases h2 : (1048576 : Int) - (a0.size : Int) - (b0.size : Int) < 0
    · simp [h2]
    · rw [if_neg h2]
      simp only [Option.bind_some, if_neg h2]
      unfold laws_toPiece.f spec_CanJoin.f impl_CanJoin.f
      simp

theorem opens_piece : Opens Try.prog 24 (Kd.iso (Kd.pair Kd.string (Kd.pair (Kd.int .u8) (Kd.int .u8))) (fun x : ByteArray × Int × Int => x)) (fun y => y.1.size ≤ 9223372036854775807 ∧ (Lit.int .u8 y.2.1).wf = true ∧ (Lit.int .u8 y.2.2).wf = true) :=
  opens_struct3 (P := Try.prog) (fun x : ByteArray × Int × Int => x) (fun a b c => (a, b, c)) (fun _ _ _ => rfl) Try.underlying24 rfl rfl rfl (by kernel_rfl) (by kernel_rfl) (by kernel_rfl) (by kernel_rfl)
    (opens_string Try.underlying9) (opens_int Try.underlying5) (opens_int Try.underlying5)
theorem laidOut : laidOutB Try.prog = true := by kernel_rfl
theorem own : ownKnob Try.prog.godebug = none := by kernel_rfl
set_option maxRecDepth 100000 in
theorem lifted (os : Os) (started : os.Started) (H : Type) (enc : TypeId × Value → H) :
    ReturnsInHanded {} Try.checked os 4 .any (Rows.fnExactCanJoinSpec.pre6 enc Try.prog Try.f4 Rows.fnExactCanJoinRow.domain false) (Rows.fnExactCanJoinSpec.post enc Try.prog Try.f4 false true false false) := by
  refine returnsInHanded_of_change_sized (C := Try.checked) own started (by kernel_rfl) Try.func4
    (ChangeSpec.witness6 (enc := enc) (C := Try.checked) false ⟨#[], #[.agg #[.string ByteArray.empty, .int .u8 0, .int .u8 0], .agg #[.string ByteArray.empty, .int .u8 0, .int .u8 0]], []⟩ 8 (by kernel_rfl) (by kernel_rfl) (by kernel_rfl) (by kernel_rfl)) ?_
  intro W base args ds gs before hval0 hW hcnd hsz0 _
  have hval : ∀ (j : Nat) t v, Try.f4.params[j]? = some t → args[j]? = some v → Value.okWide Try.prog W .any base t v := hval0
  have hW' := hW
  obtain ⟨p, q, hA0, hV, rfl, hfz, hnd⟩ := hW
  have hA : DataW.TrodAll enc Try.prog W 0 (fun _ => true) true Try.f4.params.toList args.toList ds p := hA0
  rw [Try.params4] at hA hval
  obtain ⟨v0, vs0, d0, ds0, p0, q0, hargs, rfl, rfl, h0, r0⟩ := trodAll_cons hA
  obtain ⟨v1, vs1, d1, ds1, p1, q1, rfl, rfl, rfl, h1, r1⟩ := trodAll_cons r0
  obtain ⟨rfl, rfl, rfl⟩ := trodAll_nil r1
  obtain rfl : args = #[v0, v1] := by cases args; simp_all
  obtain ⟨rfl, rfl⟩ := trodVars_none hV
  obtain ⟨a0, c0, rfl, k0, g0⟩ := open_agg opens_piece Try.underlying24 (hval 0 24 v0 rfl rfl) h0
  obtain ⟨a1, c1, rfl, k1, g1⟩ := open_agg opens_piece Try.underlying24 (hval 1 24 v1 rfl rfl) h1
  have t0 := h0
  have t1 := h1
  obtain ⟨_, _, rfl, rfl, ⟨_, _, rfl, rfl, rfl⟩⟩ := k0
  obtain ⟨_, _, rfl, rfl, ⟨_, _, rfl, rfl, rfl⟩⟩ := k1
  have lt0 : ∀ x ∈ p0, x.block < W.heap.size := by obtain ⟨m, hm⟩ := t0; exact DataW.trod_lt m _ _ _ hm
  have lt1 : ∀ x ∈ p1, x.block < W.heap.size := by obtain ⟨m, hm⟩ := t1; exact DataW.trod_lt m _ _ _ hm
  clear hA0 hval0 hsz0
  refine (laws_FnExactCanJoin.calls a0.1 a0.2.1 a0.2.2 a1.1 a1.2.1 a1.2.2 true W (pure_law _ _ _ _ _ _ g0.1 g1.1)).mono fun e W' ⟨he, bel⟩ => ?_
  subst he
  exact ⟨_, rfl, _, _, _, [], _, [], hW', trodAll_mk1 (shut_bool Try.underlying4 _),
    (trodAll_cons_mk (Below.trod laidOut (by kernel_rfl) (of_decide_eq_true (by kernel_rfl)) t0 bel lt0) (trodAll_cons_mk (Below.trod laidOut (by kernel_rfl) (of_decide_eq_true (by kernel_rfl)) t1 bel lt1) trodAll_mk0)), rfl, bel.frame _, fun h => by cases h⟩
theorem over : Rows.fnExactCanJoinRow.holds Try.pinned (OpenSpec.ofChange Rows.fnExactCanJoinSpec) :=
  OpenClaim.holds_of_wide 4 Try.f4 rfl rfl rfl rfl rfl rfl rfl ⟨rfl, rfl, rfl, rfl, rfl⟩ rfl rfl rfl rfl rfl (by kernel_rfl) Try.func4 (by kernel_rfl)
    (of_decide_eq_true (by kernel_rfl)) (by unfold Func.isWrapper; first | (rw [if_pos (by decide +kernel)]; kernel_rfl) | (rw [if_neg (by decide +kernel)]; exact ⟨rfl, rfl⟩))
    (fun os started H enc _ => lifted os started H enc)
theorem proved : Rows.FnExactCanJoinSaid := over
end Go.Proofs.Ytebjimbcjigekaa.fnExactCanJoin
