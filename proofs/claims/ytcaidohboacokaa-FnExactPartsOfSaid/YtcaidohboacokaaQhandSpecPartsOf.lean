/- spec.PartsOf by hand. -/
import Derived.Test.YtcaidohboacokaaQhandSpecTop
import Derived.Test.YtcaidohboacokaaQspecl03Asked
import Derived.Test.YtcaidohboacokaaQspecl03Parts
import Derived.Outline
import Derived.Lib.Hide
namespace Go.Proofs.Ytcaidohboacokaa.Q
open Go.RowKit Go.Proofs.YtcaidohboacokaaW.PrintWords Go.Proofs.YtcaidohboacokaaW.PrintLast Go.Proofs.YtcaidohboacokaaW.PrintMore
open Go.Proofs.Ytcaidohboacokaa.Pure
set_option linter.unusedVariables false

def spec_PartsOf.f (s : List SG) (m : List MP) (t : ByteArray) : Option (List Int × Int) := (spec_l03Asked.f 2097200 s m t).bind fun c => if c = 0 then (spec_l03Parts.f 2097200 s m t).bind fun v => some (v, 0) else some ([], c)

set_option maxHeartbeats 2000000 in
theorem spec_PartsOf.calls (A0_0 : Option Addr) (c0_0 : Nat) (l0_0 : List SG) (A0_1 : Option Addr) (c0_1 : Nat) (l0_1 : List MP) (a1 : ByteArray) (r1 : List Int) (r2 : Int) (w : World) (hr0_0 : Kd.C k58 w A0_0 l0_0.length l0_0) (hc0_0 : l0_0.length ≤ c0_0) (hr0_1 : Kd.C k59 w A0_1 l0_1.length l0_1) (hc0_1 : l0_1.length ≤ c0_1) (h : spec_PartsOf.f l0_0 l0_1 a1 = some (r1, r2)) :
    Calls Try.prog 33 #[.agg #[.slice A0_0 l0_0.length c0_0, .slice A0_1 l0_1.length c0_1], .string a1] w fun e w' => ∃ v0_ : Value, e = .returned (.tuple #[v0_, .int .i64 r2]) ∧ Kd.R (Kd.int .i64) 2 w' w.heap.size (fun _ => True) v0_ r1 ∧ Below w.heap.size w w' := by
  unfold spec_PartsOf.f at h
  obtain ⟨c, hc, h⟩ := Option.bind_eq_some_iff.1 h
  have HC := Lib.hid (spec_l03Asked.calls 2097200 w.heap.size l0_0 l0_1 a1 c w _ (isS_new hr0_0 hr0_1 (c0_0 := c0_0) (c0_1 := c0_1)) (below_alloc (Below.refl _ _) _) hc)
  clear hr0_0 hr0_1 hc
  by_cases e0 : c = 0
  · rw [if_pos e0] at h
    obtain ⟨v, hv, h⟩ := Option.bind_eq_some_iff.1 h
    simp only [Option.some.injEq, Prod.mk.injEq] at h
    obtain ⟨rfl, rfl⟩ := h
    subst e0
    have HV := Lib.hid hv
    clear hv
    go_enter Try.func33, Try.ntmps33
    go_wp2_with (first | (go_at_call 63; refine HC.out.mono ?_; rintro e w' ⟨rfl, hi, hb, hk⟩; have HI := Lib.hid hi; have HB := Lib.hid hb; clear hi hb hk) | (go_at_call 75; refine (spec_l03Parts.calls 2097200 w.heap.size l0_0 l0_1 a1 _ w _ HI.out HB.out HV.out).mono ?_; rintro e w' ⟨v, rfl, hr, hi, hb, hk⟩; have HB2 := Lib.hid hb; have HR2 := Lib.hid (Kd.R_lower hr HB.out.size); clear hr hi hb hk))
    go_ret2
    exact ⟨_, rfl, HR2.out, HB2.out⟩
  · rw [if_neg e0] at h
    simp only [Option.some.injEq, Prod.mk.injEq] at h
    obtain ⟨rfl, rfl⟩ := h
    have t1 : (c != 0) = true := bne_iff_ne.2 e0
    clear e0
    go_enter Try.func33, Try.ntmps33
    go_wp2_with (first | (go_at_call 63; refine HC.out.mono ?_; rintro e w' ⟨rfl, hi, hb, hk⟩; have HB := Lib.hid hb; clear hi hb hk) | ((with_reducible refine gate_dst (N := 11) rfl ?_); refine Kd.R_lit (Kd.int .i64) _ 2 ?hg (N := 11) ?hd (xs := ([] : List Int)) (inner := []) (ok := fun _ => True) (okp := fun _ => True) ?hr ?hp (fun _ hk => hk) trivial HB.out HB.out.size (by simp) ?_; (case hd => rfl); (case hg => rfl); (case hr => first | (go_simp; done) | (go_simp; rfl)); (case hp => exact (Reps.none _ _)); intro v0 w7 ho8 hb hg_ hnew_; clear hg_ hnew_; have HO := Lib.hid ho8; have HB2 := Lib.hid hb; clear ho8 hb))
    go_ret2
    exact ⟨_, rfl, HO.out, HB2.out⟩
end Go.Proofs.Ytcaidohboacokaa.Q
