/- The laws' marks on rows of pairs and on faces, by hand; what a law keeps beside what it marks. -/
import Derived.Test.YtjaamcedgdhilaaQhandFace
import Derived.Test.YtjaamcedgdhilaaQlawsmarkPairS
import Derived.Test.YtjaamcedgdhilaaQlawsheldPairS
namespace Go.Proofs.Ytjaamcedgdhilaa.Q
open Go.RowKit Go.Proofs.YtjaamcedgdhilaaW.PrintWords Go.Proofs.YtjaamcedgdhilaaW.PrintLast Go.Proofs.YtjaamcedgdhilaaW.PrintMore
open Go.Proofs.Ytjaamcedgdhilaa.Pure
set_option linter.unusedVariables false
set_option linter.unusedSimpArgs false

def markP (j : Nat) : S46 := ⟨((3 * j + 1 : Nat) : Int) % 256, ((3 * j + 2 : Nat) : Int) % 256, IntKind.i8.wrap ((3 * j + 3 : Nat) : Int)⟩
def marksP (n : Nat) : List S46 := (List.range n).map markP
theorem marksP_len (n : Nat) : (marksP n).length = n := by simp [marksP]
theorem marksP_step (xs : List S46) (i : Nat) (h : i < xs.length) : (marksP i ++ xs.drop i).set i (markP i) = marksP (i + 1) ++ xs.drop (i + 1) := by
  rw [List.set_append_right _ _ (by rw [marksP_len]; exact Nat.le_refl _), marksP_len, Nat.sub_self, List.drop_eq_getElem_cons h, List.set_cons_zero]
  simp [marksP, List.range_succ]
theorem laws_markPairS.val (l : List S46) (hl : l.length ≤ 1048576) (k : Nat) (hk : l.length < k) : laws_markPairS.f k l 1 = some (((3 * l.length + 1 : Nat) : Int), marksP l.length) := by
  unfold laws_markPairS.f
  have := scan_inv (n := l.length) (M := 0) (l := fun k i (x : Int × List S46) => laws_markPairS.l0 k x.2 x.1 i) (at_ := fun i => (((3 * i + 1 : Nat) : Int), marksP i ++ l.drop i)) (r := (((3 * l.length + 1 : Nat) : Int), marksP l.length)) (fun k i hi _ => ?_) (fun k _ => ?_) k (by omega)
  · simpa [marksP] using this
  · have hlen : (marksP i ++ l.drop i).length = l.length := by rw [List.length_append, marksP_len, List.length_drop]; omega
    simp only [laws_markPairS.l0]
    have w1 : wrap64 (((3 * i + 1 : Nat) : Int) + 1) = ((3 * i + 2 : Nat) : Int) := by rw [wrap_id (by omega) (by omega)]; omega
    have w2 : wrap64 (((3 * i + 2 : Nat) : Int) + 1) = ((3 * i + 3 : Nat) : Int) := by rw [wrap_id (by omega) (by omega)]; omega
    have w3 : wrap64 (((3 * i + 3 : Nat) : Int) + 1) = ((3 * (i + 1) + 1 : Nat) : Int) := by rw [wrap_id (by omega) (by omega)]; omega
    have hs : ∀ (x : List S46) (z : S46), x.length = l.length → rd_T46 (x.set i z) (i : Int) = z := fun x z hx => by
      rw [rd46_get _ _ (by rw [List.length_set]; omega), List.getElem_set_self]
    rw [hlen, if_pos (by omega), if_pos (by omega), w1, w2, w3, wrap_succ hi (by omega)]
    simp only [Option.bind_some, Int.toNat_natCast, hs, List.length_set, hlen, List.set_set]
    have := marksP_step l i hi
    rw [← this]
    rfl
  · have hlen : (marksP l.length ++ l.drop l.length).length = l.length := by rw [List.length_append, marksP_len, List.length_drop]; omega
    simp only [laws_markPairS.l0]
    rw [hlen, if_neg (by omega)]
    simp
theorem laws_heldPairS.val (n : Nat) (hl : n ≤ 1048576) (k : Nat) (hk : n < k) : laws_heldPairS.f k (marksP n) 1 = some ((3 * n + 1 : Nat) : Int) := by
  unfold laws_heldPairS.f
  have := scan_inv (n := n) (M := 0) (l := fun k i (x : Int) => laws_heldPairS.l0 k (marksP n) x i) (at_ := fun i => ((3 * i + 1 : Nat) : Int)) (r := ((3 * n + 1 : Nat) : Int)) (fun k i hi _ => ?_) (fun k _ => ?_) k (by omega)
  · simpa using this
  · simp only [laws_heldPairS.l0]
    have w1 : wrap64 (((3 * i + 1 : Nat) : Int) + 1) = ((3 * i + 2 : Nat) : Int) := by rw [wrap_id (by omega) (by omega)]; omega
    have w2 : wrap64 (((3 * i + 2 : Nat) : Int) + 1) = ((3 * i + 3 : Nat) : Int) := by rw [wrap_id (by omega) (by omega)]; omega
    have w3 : wrap64 (((3 * i + 3 : Nat) : Int) + 1) = ((3 * (i + 1) + 1 : Nat) : Int) := by rw [wrap_id (by omega) (by omega)]; omega
    have hg : rd_T46 (marksP n) (i : Int) = markP i := by
      rw [rd46_get _ _ (by rw [marksP_len]; exact hi)]
      simp [marksP]
    rw [marksP_len, if_pos (by omega), if_pos (by omega), hg, w1, w2, w3, wrap_succ hi (by omega)]
    simp [markP]
  · simp only [laws_heldPairS.l0]
    rw [marksP_len, if_neg (by omega)]

set_option maxHeartbeats 4000000 in
theorem markFaceC (ws : List Int) (hx : ws.length = 26) (sp gp : Int) (P0 : Nat → Prop) (A : Option Addr) (n c : Nat) (l : List S46) (w0 w : World) (hB : Below w0.heap.size w0 w) (ho : Kd.R k46 46 w w0.heap.size P0 (.slice A n c) l) (hl : l.length ≤ 1048576) :
    Calls Try.prog 19 #[.agg (FV ws sp gp (.slice A n c)), .int .i64 1] w fun e w' => e = .returned (.int .i64 ((3 * l.length + 1 : Nat) : Int)) ∧ Kd.R k46 46 w' w0.heap.size P0 (.slice A n c) (marksP l.length) ∧ Below w0.heap.size w0 w' ∧ Kept w w' P0 := by
  have H1 := Lib.hid (heap_alloc_new w (.cells (FV ws sp gp (.slice A n c)) 31))
  have HB := Lib.hid (below_alloc hB (.cells (FV ws sp gp (.slice A n c)) 31))
  have HO := Lib.hid (Kd.R_alloc ho (.cells (FV ws sp gp (.slice A n c)) 31))
  have HM := Lib.hid (laws_markPairS.val l hl (l.length + 1) (by omega))
  have HW := Lib.hid (ho.1)
  have c28 := (blk_cell H1.out 28).trans (FV_28 ws hx _ _ _)
  obtain ⟨r, hr⟩ : ∃ r : Int, r = ((3 * l.length + 1 : Nat) : Int) := ⟨_, rfl⟩
  rw [← hr] at HM ⊢
  clear hB ho hl hx hr
  go_enter Try.func19, Try.ntmps19
  go_wp2_with (first
    | (go_at_call 39
       with_reducible refine (laws_markPairS.calls (l.length + 1) P0 (.slice A n c) l 1 r (marksP l.length) w0 _ HB.out HO.out HM.out).mono ?_
       rintro e w1 ⟨rfl, hR, hb, hk⟩
       have HR := Lib.hid hR
       have HB1 := Lib.hid hb
       have HK := Lib.hid hk
       clear hR hb hk))
  go_ret
  refine ⟨rfl, Kd.R_flat (fun h => h) HR.out (fun k hk _ => HW.out k hk), HB1.out, ?_⟩
  have hk := HK.out
  refine ⟨Nat.le_trans (by simp) hk.1, fun i hi hs => ?_⟩
  exact (hk.2 i (by simp; omega) hs).trans (heap_alloc_old _ _ hi)

set_option maxHeartbeats 4000000 in
theorem heldFaceC (ws : List Int) (hx : ws.length = 26) (sp gp : Int) (A : Option Addr) (m n c : Nat) (w : World) (hr : Kd.C k46 w A n (marksP n)) (hc : n ≤ c) (hn : n ≤ 1048576) :
    Calls Try.prog 20 #[.agg (FV ws sp gp (.slice A n c)), .int .i64 1] w fun e w' => e = .returned (.int .i64 ((3 * n + 1 : Nat) : Int)) ∧ Below w.heap.size w w' := by
  have H1 := Lib.hid (heap_alloc_new w (.cells (FV ws sp gp (.slice A n c)) 31))
  have HB := Lib.hid (below_alloc (Below.refl w.heap.size w) (.cells (FV ws sp gp (.slice A n c)) 31))
  have HM := Lib.hid (laws_heldPairS.val n hn (n + 1) (by omega))
  have HL := Lib.hid (marksP_len n)
  have HR := Lib.hid (Kd.C_below hr HB.out)
  have HC := Lib.hid hc
  have c28 := (blk_cell H1.out 28).trans (FV_28 ws hx _ _ _)
  obtain ⟨r, hr0⟩ : ∃ r : Int, r = ((3 * n + 1 : Nat) : Int) := ⟨_, rfl⟩
  rw [← hr0] at HM ⊢
  have hneg : ¬ r < 0 := by omega
  have HCall := Lib.hid (show Calls Try.prog 40 #[.slice A n c, .int .i64 1] (w.alloc (.cells (FV ws sp gp (.slice A n c)) 31)) fun e w' => e = .returned (.int .i64 r) ∧ Drawn0 (w.alloc (.cells (FV ws sp gp (.slice A n c)) 31)) w' by
    have := laws_heldPairS.calls (n + 1) A c (marksP n) 1 r (w.alloc (.cells (FV ws sp gp (.slice A n c)) 31)) (by rw [HL.out]; exact HR.out) (by rw [HL.out]; exact hc) HM.out
    rw [HL.out] at this
    exact this)
  clear hr hc hn hx hr0
  go_enter Try.func20, Try.ntmps20
  go_wp2_with (first
    | (go_at_call 40
       with_reducible refine HCall.out.mono ?_
       rintro e w7 ⟨rfl, ⟨nd, rfl⟩⟩))
  go_ret
  exact ⟨rfl, pw_below_drewN HB.out _⟩

/-- What a law on faces keeps: the argument's block, three faces in blocks of their own, the three rows in three stretches of memory. -/
structure Inv (a f6 f8 f9 : Array Value) (ta U : TypeId) (b0 I2 I3 I4 I5 I6 I7 base : Nat) (Vw Vx Vg : Value) (lw lx lg : List S46) (W : World) : Prop where
  ord : b0 < I2 ∧ I2 ≤ I3 ∧ I3 < I4 ∧ I4 ≤ I5 ∧ I5 < I6 ∧ I6 ≤ I7
  k0 : W.heap[b0]? = some (.cells a ta (0, 0))
  k6 : W.heap[I3]? = some (.cells f6 U (0, 0))
  k8 : W.heap[I5]? = some (.cells f8 U (0, 0))
  k9 : W.heap[I7]? = some (.cells f9 U (0, 0))
  rw : Kd.R k46 46 W base (fun k => I2 ≤ k ∧ k < I3) Vw lw
  rx : Kd.R k46 46 W base (fun k => I4 ≤ k ∧ k < I5) Vx lx
  rg : Kd.R k46 46 W base (fun k => I6 ≤ k ∧ k < I7) Vg lg
section
variable {a f6 f8 f9 : Array Value} {ta U : TypeId} {b0 I2 I3 I4 I5 I6 I7 base : Nat} {Vw Vx Vg : Value} {lw lx lg : List S46} {W W' : World}
theorem Inv.below (h : Inv a f6 f8 f9 ta U b0 I2 I3 I4 I5 I6 I7 base Vw Vx Vg lw lx lg W) (hb : Below W.heap.size W W') : Inv a f6 f8 f9 ta U b0 I2 I3 I4 I5 I6 I7 base Vw Vx Vg lw lx lg W' :=
  ⟨h.ord, (hb.block _ (blk_lt h.k0)).trans h.k0, (hb.block _ (blk_lt h.k6)).trans h.k6, (hb.block _ (blk_lt h.k8)).trans h.k8, (hb.block _ (blk_lt h.k9)).trans h.k9, Kd.R_below h.rw hb, Kd.R_below h.rx hb, Kd.R_below h.rg hb⟩
theorem Inv.markX (h : Inv a f6 f8 f9 ta U b0 I2 I3 I4 I5 I6 I7 base Vw Vx Vg lw lx lg W) {lx' : List S46} (hk : Kept W W' (fun k => I4 ≤ k ∧ k < I5)) (hx : Kd.R k46 46 W' base (fun k => I4 ≤ k ∧ k < I5) Vx lx') : Inv a f6 f8 f9 ta U b0 I2 I3 I4 I5 I6 I7 base Vw Vx Vg lw lx' lg W' := by
  obtain ⟨o1, o2, o3, o4, o5, o6⟩ := h.ord
  exact ⟨h.ord, (hk.2 _ (blk_lt h.k0) (by omega)).trans h.k0, (hk.2 _ (blk_lt h.k6) (by omega)).trans h.k6, (hk.2 _ (blk_lt h.k8) (by omega)).trans h.k8, (hk.2 _ (blk_lt h.k9) (by omega)).trans h.k9,
    Kd.R_step h.rw (fun k ho hlt => hk.2 k hlt (by omega)), hx, Kd.R_step h.rg (fun k ho hlt => hk.2 k hlt (by omega))⟩
theorem Inv.markG (h : Inv a f6 f8 f9 ta U b0 I2 I3 I4 I5 I6 I7 base Vw Vx Vg lw lx lg W) {lg' : List S46} (hk : Kept W W' (fun k => I6 ≤ k ∧ k < I7)) (hg : Kd.R k46 46 W' base (fun k => I6 ≤ k ∧ k < I7) Vg lg') : Inv a f6 f8 f9 ta U b0 I2 I3 I4 I5 I6 I7 base Vw Vx Vg lw lx lg' W' := by
  obtain ⟨o1, o2, o3, o4, o5, o6⟩ := h.ord
  exact ⟨h.ord, (hk.2 _ (blk_lt h.k0) (by omega)).trans h.k0, (hk.2 _ (blk_lt h.k6) (by omega)).trans h.k6, (hk.2 _ (blk_lt h.k8) (by omega)).trans h.k8, (hk.2 _ (blk_lt h.k9) (by omega)).trans h.k9,
    Kd.R_step h.rw (fun k ho hlt => hk.2 k hlt (by omega)), Kd.R_step h.rx (fun k ho hlt => hk.2 k hlt (by omega)), hg⟩
end
end Go.Proofs.Ytjaamcedgdhilaa.Q
