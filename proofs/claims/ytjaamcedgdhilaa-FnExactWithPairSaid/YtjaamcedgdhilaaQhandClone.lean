/- slices.Clone of pairs, by hand. -/
import Derived.Test.YtjaamcedgdhilaaQhandFace
import Derived.Lib.SliceRun
namespace Go.Proofs.Ytjaamcedgdhilaa.Q
open Go.RowKit Go.Proofs.YtjaamcedgdhilaaW.PrintWords Go.Proofs.YtjaamcedgdhilaaW.PrintLast Go.Proofs.YtjaamcedgdhilaaW.PrintMore
open Go.Proofs.Ytjaamcedgdhilaa.Pure
set_option linter.unusedVariables false
set_option linter.unusedSimpArgs false

theorem info46' : (Try.prog.info? 46).map (fun i => (i.zero, i.size, i.bytes)) = some (some (.agg #[.int .u8 0, .int .u8 0, .int .i8 0]), 3, 3) := by kernel_rfl

set_option maxHeartbeats 2000000 in
theorem cloneS (ad : Addr) (c0 : Nat) (l0 : List S46) (w : World) (hr0 : Kd.C k46 w (some ad) l0.length l0) (hc0 : l0.length ≤ c0) (hl2 : l0.length ≤ 1048576) :
    Calls Try.prog 38 #[.slice (some ad) l0.length c0] w fun e w' => ∃ v0_ : Value, e = .returned (v0_) ∧ Kd.R k46 46 w' w.heap.size (fun _ => True) v0_ l0 ∧ Below w.heap.size w w' := by
  have HR := Lib.hid hr0
  clear hr0
  have hn := fun (W : World) => Lib.run_eql_slice_nil (P := Try.prog) W 29 46 (some ad) l0.length c0 0 0 Try.underlying29
  simp only [Option.isNone_some] at hn
  go_enter Try.func38, Try.ntmps38
  go_wp2_with (first | ((with_reducible refine gate_dst (N := 5) rfl ?_); refine Kd.R_lit k46 _ 46 ?hg (N := 5) ?hd (xs := ([] : List S46)) (inner := []) (ok := fun _ => True) (okp := fun _ => True) ?hr ?hp (fun _ hk => hk) trivial (Below.refl _ _) (Nat.le_refl _) (by simp) ?_; (case hd => rfl); (case hg => rfl); (case hr => first | (go_simp; done) | (go_simp; rfl)); (case hp => exact (Reps.none _ _)); intro v0 w7 ho8 hb hg_ hnew_; clear hg_ hnew_; have HO := Lib.hid ho8; have HB := Lib.hid hb; have HC := Lib.hid (Kd.C_below HR.out hb); clear ho8 hb) | ((with_reducible refine gate_builtin (b := .append) (xs := #[.tmp 5, .tmp 6]) rfl ?_); at_builtin; refine Kd.R_append_rows k46 (w0 := w) w.heap.size rfl (.tmp 5) (.tmp 6) 29 46 (.agg #[.int .u8 0, .int .u8 0, .int .i8 0]) 3 rfl Try.underlying29 info46' rfl (by decide) (by omega) v0 [] l0 _ _ _ (fun _ => True) (fun _ => False) rfl rfl ?aO ?aR (fun _ _ h => h) (fun _ h => h.elim) ?aF ?aB ?aS ?aL ?_; (case aO => exact HO.out); (case aR => exact HC.out); (case aF => exact (fun _ _ => trivial)); (case aB => exact HB.out); (case aS => exact HB.out.size); (case aL => simp; omega); intro v2 w2 ho hb hg hat; have HR4 := Lib.hid ho; have HW4 := Lib.hid hb; clear ho hb hg hat))
  go_ret
  exact ⟨_, rfl, HR4.out, HW4.out⟩
theorem cloneN (c0 : Nat) (w : World) :
    Calls Try.prog 38 #[.slice none 0 c0] w fun e w' => ∃ v0_ : Value, e = .returned (v0_) ∧ Kd.R k46 46 w' w.heap.size (fun _ => True) v0_ [] ∧ Below w.heap.size w w' := by
  have hn := fun (W : World) => Lib.run_eql_slice_nil (P := Try.prog) W 29 46 none 0 c0 0 0 Try.underlying29
  simp only [Option.isNone_none] at hn
  go_enter Try.func38, Try.ntmps38
  go_wp2
  go_ret
  exact ⟨_, rfl, Kd.R_mono (Kd.R_nil _ _ _ _ (fun _ => True)) (fun _ h => h), Below.refl _ _⟩
theorem cloneC (A : Option Addr) (c0 : Nat) (l0 : List S46) (w : World) (hr0 : Kd.C k46 w A l0.length l0) (hc0 : l0.length ≤ c0) (hl2 : l0.length ≤ 1048576) :
    Calls Try.prog 38 #[.slice A l0.length c0] w fun e w' => ∃ B d, e = .returned (.slice B l0.length d) ∧ Kd.R k46 46 w' w.heap.size (fun _ => True) (.slice B l0.length d) l0 ∧ Below w.heap.size w w' := by
  have key : Calls Try.prog 38 #[.slice A l0.length c0] w fun e w' => ∃ v0_ : Value, e = .returned (v0_) ∧ Kd.R k46 46 w' w.heap.size (fun _ => True) v0_ l0 ∧ Below w.heap.size w w' := by
    cases A with
    | some ad => exact cloneS ad c0 l0 w hr0 hc0 hl2
    | none =>
      have h0 : l0.length = 0 := by
        rcases Nat.eq_zero_or_pos l0.length with h | h
        · exact h
        · obtain ⟨ad, e, _⟩ := hr0.2.2 h
          cases e
      have : l0 = [] := List.length_eq_zero_iff.1 h0
      subst this
      exact cloneN c0 w
  refine key.mono ?_
  rintro e w' ⟨v, rfl, hR, hb⟩
  obtain ⟨B, d, rfl⟩ := Kd.R_slice hR
  exact ⟨B, d, rfl, hR, hb⟩
end Go.Proofs.Ytjaamcedgdhilaa.Q
