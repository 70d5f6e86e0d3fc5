/- slices.Clone of signs, of which there is one at least. -/
import Derived.Test.YtcaidohboacokaaQ0
import Derived.Outline
import Derived.Lib.Hide
import Derived.Lib.SliceRun
namespace Go.Proofs.Ytcaidohboacokaa.Q
open Go.RowKit Go.Proofs.YtcaidohboacokaaW.PrintWords Go.Proofs.YtcaidohboacokaaW.PrintLast Go.Proofs.YtcaidohboacokaaW.PrintMore
set_option linter.unusedVariables false

def slices_Clone_impl_Sign.f (l0 : List S58) : Option (List S58) := if 1 ≤ l0.length ∧ l0.length ≤ 1000000 then some l0 else none
set_option maxHeartbeats 2000000 in
theorem slices_Clone_impl_Sign.calls (A0 : Option Addr) (c0 : Nat) (l0 : List S58) (r : List S58) (w : World) (hr0 : Kd.C k58 w A0 l0.length l0) (hc0 : l0.length ≤ c0) (h : slices_Clone_impl_Sign.f l0 = some r) :
    Calls Try.prog 59 #[.slice A0 l0.length c0] w fun e w' => ∃ v0_ : Value, e = .returned (v0_) ∧ Kd.R k58 58 w' w.heap.size (fun _ => True) v0_ r ∧ Below w.heap.size w w' := by
  unfold slices_Clone_impl_Sign.f at h
  split at h
  rotate_left
  · cases h
  rename_i hl
  obtain ⟨hl1, hl2⟩ := hl
  obtain rfl := Option.some.inj h
  clear h
  obtain ⟨ad, rfl, _⟩ := hr0.2.2 (by omega)
  have HR := Lib.hid hr0
  clear hr0
  have hn := fun (W : World) => Lib.run_eql_slice_nil (P := Try.prog) W 22 58 (some ad) l0.length c0 0 0 Try.underlying22
  simp only [Option.isNone_some] at hn
  go_enter Try.func59, Try.ntmps59
  go_wp2_with (first | ((with_reducible refine gate_dst (N := 5) rfl ?_); refine Kd.R_lit k58 _ 58 ?hg (N := 5) ?hd (xs := ([] : List S58)) (inner := []) (ok := fun _ => True) (okp := fun _ => True) ?hr ?hp (fun _ hk => hk) trivial (Below.refl _ _) (Nat.le_refl _) (by simp) ?_; (case hd => rfl); (case hg => rfl); (case hr => first | (go_simp; done) | (go_simp; rfl)); (case hp => exact (Reps.none _ _)); intro v0 w7 ho8 hb hg_ hnew_; clear hg_ hnew_; have HO := Lib.hid ho8; have HB := Lib.hid hb; have HC := Lib.hid (Kd.C_below HR.out hb); clear ho8 hb) | ((with_reducible refine gate_builtin (b := .append) (xs := #[.tmp 5, .tmp 6]) rfl ?_); at_builtin; refine Kd.R_append_rows k58 (w0 := w) w.heap.size rfl (.tmp 5) (.tmp 6) 22 58 (.agg #[.int .u8 0, .int .i16 0]) 4 rfl Try.underlying22 info58 rfl (by decide) (by omega) v0 [] l0 _ _ _ (fun _ => True) (fun _ => False) rfl rfl ?aO ?aR (fun _ _ h => h) (fun _ h => h.elim) ?aF ?aB ?aS ?aL ?_; (case aO => exact HO.out); (case aR => exact HC.out); (case aF => exact (fun _ _ => trivial)); (case aB => exact HB.out); (case aS => exact HB.out.size); (case aL => simp; omega); intro v2 w2 ho hb hg hat; have HR4 := Lib.hid ho; have HW4 := Lib.hid hb; clear ho hb hg hat))
  go_ret
  exact ⟨_, rfl, HR4.out, HW4.out⟩
end Go.Proofs.Ytcaidohboacokaa.Q
