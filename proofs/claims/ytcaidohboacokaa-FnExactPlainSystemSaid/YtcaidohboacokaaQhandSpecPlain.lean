/- spec.PlainSystem by hand. -/
import Derived.Test.YtcaidohboacokaaQhandSpecTop
import Derived.Outline
import Derived.Lib.Hide
namespace Go.Proofs.Ytcaidohboacokaa.Q
open Go.RowKit Go.Proofs.YtcaidohboacokaaW.PrintWords Go.Proofs.YtcaidohboacokaaW.PrintLast Go.Proofs.YtcaidohboacokaaW.PrintMore
open Go.Proofs.Ytcaidohboacokaa.Pure
set_option linter.unusedVariables false

theorem plain_far {v : Value} {n i : Nat} (h : ∃ b, v.ownBlock = some b ∧ n ≤ b) (hi : i < n) : some i ≠ v.ownBlock := by
  obtain ⟨b, e, hb⟩ := h
  rw [e]
  intro h2
  injection h2
  omega
def spec_PlainSystem.f (s : List SG) (m : List MP) : Option (List SG × List MP × Int) := if s.length ≤ 1048576 then (spec_l03Ok.f s m).bind fun b => if b = true then some (s, [], 0) else some ([], [], 1) else none
set_option maxHeartbeats 2000000 in
theorem spec_PlainSystem.calls (A0_0 : Option Addr) (c0_0 : Nat) (l0_0 : List SG) (A0_1 : Option Addr) (c0_1 : Nat) (l0_1 : List MP) (r1 : List SG) (r2 : List MP) (r3 : Int) (w : World) (hr0_0 : Kd.C k58 w A0_0 l0_0.length l0_0) (hc0_0 : l0_0.length ≤ c0_0) (hr0_1 : Kd.C k59 w A0_1 l0_1.length l0_1) (hc0_1 : l0_1.length ≤ c0_1) (h : spec_PlainSystem.f l0_0 l0_1 = some (r1, r2, r3)) :
    Calls Try.prog 23 #[.agg #[.slice A0_0 l0_0.length c0_0, .slice A0_1 l0_1.length c0_1]] w fun e w' => ∃ v0_ v1_ : Value, e = .returned (.tuple #[.agg #[v0_, v1_], .int .i64 r3]) ∧ Kd.R k58 58 w' w.heap.size (fun _ => True) v0_ r1 ∧ Kd.R k59 59 w' w.heap.size (fun _ => True) v1_ r2 ∧ Below w.heap.size w w' := by
  unfold spec_PlainSystem.f at h
  split at h
  rotate_left
  · cases h
  rename_i hmax
  obtain ⟨b, hb, h⟩ := Option.bind_eq_some_iff.1 h
  have HC := Lib.hid (spec_l03Ok.calls w.heap.size l0_0 l0_1 b w ((w.alloc (.cells #[.slice A0_0 l0_0.length c0_0, .slice A0_1 l0_1.length c0_1] 25)).alloc (.cells #[.slice none 0 0, .slice none 0 0] 25)) ((isS_new hr0_0 hr0_1 (c0_0 := c0_0) (c0_1 := c0_1)).alloc _) ((below_alloc (Below.refl _ w) (.cells #[.slice A0_0 l0_0.length c0_0, .slice A0_1 l0_1.length c0_1] 25)).alloc (by simp) _) hb)
  have HRES := Lib.hid (show ((w.alloc (.cells #[.slice A0_0 l0_0.length c0_0, .slice A0_1 l0_1.length c0_1] 25)).alloc (.cells #[.slice none 0 0, .slice none 0 0] 25)).heap[w.heap.size + 1]? = some (.cells #[.slice none 0 0, .slice none 0 0] 25) by have := heap_alloc_new (w.alloc (.cells #[.slice A0_0 l0_0.length c0_0, .slice A0_1 l0_1.length c0_1] 25)) (.cells #[.slice none 0 0, .slice none 0 0] 25); simpa using this)
  clear hr0_0 hr0_1 hb
  cases b with
  | false =>
    rw [if_neg Bool.false_ne_true] at h
    simp only [Option.some.injEq, Prod.mk.injEq] at h
    obtain ⟨rfl, rfl, rfl⟩ := h
    go_enter Try.func23, Try.ntmps23
    go_wp2_with (first | (go_at_call 51; refine HC.out.mono ?_; rintro e w5 ⟨rfl, hi, hb, hk⟩; have HB := Lib.hid hb; have HBK := Lib.hid (hk.blk HRES.out (by omega) (by simp)); have hz0 : w5.cell? ⟨w.heap.size + 1, 0, none⟩ = some (.slice none 0 0) := (blk_cell HBK.out 0).trans rfl; have hz1 : w5.cell? ⟨w.heap.size + 1, 1, none⟩ = some (.slice none 0 0) := (blk_cell HBK.out 1).trans rfl; have hf0 := blk_frozen HBK.out 0; have hf1 := blk_frozen HBK.out 1; clear hi hb hk))
    refine bodyPost_ret (results_ct rfl _ _ (w.heap.size + 1) 25 #[.slice none 0 0, .slice none 0 0] (0, 0) _ rfl (blk_put (cs := #[.slice none 0 0, .slice none 0 0]) (blk_put (cs := #[.slice none 0 0, .slice none 0 0]) HBK.out 0 _ rfl) 1 _ rfl) Try.underlying25 rfl (by kernel_rfl)) rfl ?_
    exact ⟨_, _, rfl, Kd.R_nil _ _ _ _ _, Kd.R_nil _ _ _ _ _, below_set (below_set HB.out (by simp)) (by simp)⟩
  | true =>
    rw [if_pos rfl] at h
    simp only [Option.some.injEq, Prod.mk.injEq] at h
    obtain ⟨rfl, rfl, rfl⟩ := h
    go_enter Try.func23, Try.ntmps23
    go_wp2_with (first | (go_at_call 51; refine HC.out.mono ?_; rintro e w5 ⟨rfl, hi, hb, hk⟩; have HB := Lib.hid hb; have HBK := Lib.hid (hk.blk HRES.out (by omega) (by simp)); obtain ⟨A0, c0, A1, c1, hg, _, hq0, hq1⟩ := hi; have HG := Lib.hid hg; have HQ := Lib.hid hq0; clear hg hq0 hq1 hb hk) | ((with_reducible refine gate_dst (N := 7) rfl ?_); refine Kd.R_lit k58 _ 58 ?hg (N := 7) ?hd (xs := ([] : List SG)) (inner := []) (ok := fun _ => True) (okp := fun _ => True) ?hr ?hp (fun _ hk => hk) trivial HB.out HB.out.size (by simp) ?_; (case hd => rfl); (case hg => rfl); (case hr => first | (go_simp; done) | (go_simp; rfl)); (case hp => exact (Reps.none _ _)); intro v0 w7 ho8 hb hg_ hnew_; have HG7 := Lib.hid ((hg_.block _ (Array.getElem?_eq_some_iff.1 HG.out).1 (by simp)).trans HG.out); have HBK7 := Lib.hid ((hg_.block _ (Array.getElem?_eq_some_iff.1 HBK.out).1 (by simp)).trans HBK.out); have HN7 := Lib.hid (plain_far hnew_ (Array.getElem?_eq_some_iff.1 HBK.out).1); have HO := Lib.hid ho8; have HB7 := Lib.hid hb; have hg0 : w7.cell? ⟨w.heap.size, 0, none⟩ = some (.slice A0 l0_0.length c0) := (blk_cell HG7.out 0).trans rfl; clear ho8 hb hg_ hnew_) | ((with_reducible refine gate_builtin (b := .append) (xs := #[.tmp 7, .tmp 9]) rfl ?_); at_builtin; refine Kd.R_append_rows k58 (w0 := w) w.heap.size rfl (.tmp 7) (.tmp 9) 22 58 (.agg #[.int .u8 0, .int .i16 0]) 4 rfl Try.underlying22 info58 rfl (by decide) (by omega) v0 [] l0_0 _ _ _ (fun _ => True) (fun _ => False) rfl rfl ?aO ?aR (fun _ _ h => h) (fun _ h => h.elim) ?aF ?aB ?aS ?aL ?_; (case aO => exact HO.out); (case aR => exact Kd.C_below HQ.out HB7.out); (case aF => exact (fun _ _ => trivial)); (case aB => exact HB7.out); (case aS => exact HB7.out.size); (case aL => simp; omega); intro v2 w8 ho hb hg hat; rw [List.nil_append] at ho; obtain ⟨A8, c8, e8⟩ := Kd.R_slice ho; have HBK8 := Lib.hid ((hg.block _ (Array.getElem?_eq_some_iff.1 HBK7.out).1 HN7.out).trans HBK7.out); have HR8 := Lib.hid (Kd.R_types ho HBK8.out (by decide)); have HB8 := Lib.hid hb; subst e8; have hz0 : w8.cell? ⟨w.heap.size + 1, 0, none⟩ = some (.slice none 0 0) := (blk_cell HBK8.out 0).trans rfl; have hz1 : w8.cell? ⟨w.heap.size + 1, 1, none⟩ = some (.slice none 0 0) := (blk_cell HBK8.out 1).trans rfl; have hf0 := blk_frozen HBK8.out 0; have hf1 := blk_frozen HBK8.out 1; clear ho hb hg hat))
    refine bodyPost_ret (results_ct rfl _ _ (w.heap.size + 1) 25 #[.slice A8 l0_0.length c8, .slice none 0 0] (0, 0) _ rfl (blk_put (cs := #[.slice A8 l0_0.length c8, .slice none 0 0]) (blk_put (cs := #[.slice none 0 0, .slice none 0 0]) HBK8.out 0 _ rfl) 1 _ rfl) Try.underlying25 rfl (by kernel_rfl)) rfl ?_
    exact ⟨_, _, rfl, Kd.R_mono (Kd.R_far (p := ⟨w.heap.size + 1, 1, none⟩) (Kd.R_far (p := ⟨w.heap.size + 1, 0, none⟩) HR8.out (fun _ hk => hk.2) _) (fun _ hk => hk.2) _) (fun _ _ => trivial), Kd.R_nil _ _ _ _ _, below_set (below_set HB8.out (by simp)) (by simp)⟩
end Go.Proofs.Ytcaidohboacokaa.Q
