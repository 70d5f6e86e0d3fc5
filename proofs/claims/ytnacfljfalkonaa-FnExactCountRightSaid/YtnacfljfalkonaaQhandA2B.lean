/- Pairs of bytes: laws.eqByteA2, laws.toByteA2, and rows of such pairs: laws.markByteA2S, laws.heldByteA2S, by hand. -/
import Derived.Test.YtnacfljfalkonaaQ0
import Derived.Test.YtnacfljfalkonaaBase
import Derived.Outline
import Derived.Lib.Hide
import Derived.BigRegion
namespace Go.Proofs.Ytnacfljfalkonaa.Q
open Go.RowKit Go.Proofs.YtnacfljfalkonaaW.PrintWords Go.Proofs.YtnacfljfalkonaaW.PrintLast Go.Proofs.YtnacfljfalkonaaW.PrintMore
open Go.Proofs.Ytnacfljfalkonaa.Pure
set_option linter.unusedVariables false

def laws_eqByteA2.f (a0 a1 b0 b1 : Int) : Option Bool := some (decide (a0 = b0) && decide (a1 = b1))
def laws_toByteA2.f (a0 a1 : Int) : Option (Int × Int) := some (a0, a1)

theorem two_blocks (w : World) (x y : Obj) : ((w.alloc x).alloc y).heap[w.heap.size]? = some x ∧ ((w.alloc x).alloc y).heap[w.heap.size + 1]? = some y := by
  refine ⟨?_, ?_⟩
  · rw [heap_alloc_old _ _ (by simp), heap_alloc_new]
  · have := heap_alloc_new (w.alloc x) y
    simpa using this
theorem three_blocks (w : World) (x y z : Obj) : (((w.alloc x).alloc y).alloc z).heap[w.heap.size]? = some x ∧ (((w.alloc x).alloc y).alloc z).heap[w.heap.size + 1]? = some y ∧ (((w.alloc x).alloc y).alloc z).heap[w.heap.size + 2]? = some z := by
  refine ⟨?_, ?_, ?_⟩
  · rw [heap_alloc_old _ _ (by simp; omega)]
    exact (two_blocks w x y).1
  · rw [heap_alloc_old _ _ (by simp)]
    exact (two_blocks w x y).2
  · have := heap_alloc_new ((w.alloc x).alloc y) z
    simpa [Nat.add_assoc] using this

set_option maxHeartbeats 2000000 in
theorem laws_eqByteA2.calls (a0 a1 b0 b1 : Int) (r : Bool) (w : World) (h : laws_eqByteA2.f a0 a1 b0 b1 = some r) :
    Calls Try.prog 40 #[.agg #[.int .u8 a0, .int .u8 a1], .agg #[.int .u8 b0, .int .u8 b1]] w fun e w' => e = .returned (.bool r) ∧ Below w.heap.size w w' := by
  unfold laws_eqByteA2.f at h
  obtain rfl := Option.some.inj h
  clear h
  go_enter Try.func40, Try.ntmps40
  go_wp2
  have H2 := Lib.hid (two_blocks w (.cells #[.int .u8 a0, .int .u8 a1] 79) (.cells #[.int .u8 b0, .int .u8 b1] 79))
  have HB := Lib.hid (below_alloc (below_alloc (Below.refl _ w) (.cells #[.int .u8 a0, .int .u8 a1] 79)) (.cells #[.int .u8 b0, .int .u8 b1] 79))
  go_loopw [5] (fun i wr => ∃ k : Nat, k ≤ 2 ∧ i = .int .i64 k ∧ RowKit.Hid (wr.heap[w.heap.size]? = some (.cells #[.int .u8 a0, .int .u8 a1] 79) ∧ wr.heap[w.heap.size + 1]? = some (.cells #[.int .u8 b0, .int .u8 b1] 79)) ∧ RowKit.Hid (Below w.heap.size w wr) ∧ RowKit.Hid ((0 < k → a0 = b0) ∧ (1 < k → a1 = b1))) (fun i _ => 2 - (intOf i).toNat)
  case atStart => exact ⟨0, Nat.zero_le _, rfl, H2, HB, Lib.hid ⟨by omega, by omega⟩⟩
  case round =>
    obtain ⟨k, hk, rfl, K, KB, KE⟩ := hrel
    have k0 := Lib.hid (blk_cell K.out.1 0)
    have k1 := Lib.hid (blk_cell K.out.1 1)
    have l0 := Lib.hid (blk_cell K.out.2 0)
    have l1 := Lib.hid (blk_cell K.out.2 1)
    have hcase : k = 0 ∨ k = 1 ∨ k = 2 := by omega
    rcases hcase with rfl | rfl | rfl
    · have hv1 : wr.cell? ⟨w.heap.size, 0, none⟩ = some (.int .u8 a0) := k0.out.trans rfl
      have hv2 : wr.cell? ⟨w.heap.size + 1, 0, none⟩ = some (.int .u8 b0) := l0.out.trans rfl
      by_cases e : a0 = b0
      · have E := Lib.hid e
        have ht : (a0 != b0) = false := bne_eq_false_iff_eq.2 e
        clear e
        go_wp2
        go_region
        all_goals
          go_wp2
          go_roundw
          case measure => simp [intOf]
          case rel => exact ⟨1, by omega, by go_num, Lib.hid ⟨K.out.1, K.out.2⟩, Lib.hid (by first | exact KB.out | exact below_drew1 KB.out | exact pw_below_drewN KB.out _), Lib.hid ⟨fun _ => E.out, by omega⟩⟩
      · have E := Lib.hid e
        have ht : (a0 != b0) = true := bne_iff_ne.2 e
        clear e
        go_wp2
        go_region
        all_goals
          go_wp2
          go_ret
          exact ⟨by rw [decide_eq_false E.out]; rfl, by first | exact KB.out | exact below_drew1 KB.out | exact pw_below_drewN KB.out _⟩
    · have hv1 : wr.cell? ⟨w.heap.size, 1, none⟩ = some (.int .u8 a1) := k1.out.trans rfl
      have hv2 : wr.cell? ⟨w.heap.size + 1, 1, none⟩ = some (.int .u8 b1) := l1.out.trans rfl
      by_cases e : a1 = b1
      · have E := Lib.hid e
        have ht : (a1 != b1) = false := bne_eq_false_iff_eq.2 e
        clear e
        go_wp2
        go_region
        all_goals
          go_wp2
          go_roundw
          case measure => simp [intOf]
          case rel => exact ⟨2, by omega, by go_num, Lib.hid ⟨K.out.1, K.out.2⟩, Lib.hid (by first | exact KB.out | exact below_drew1 KB.out | exact pw_below_drewN KB.out _), Lib.hid ⟨fun _ => KE.out.1 (by omega), fun _ => E.out⟩⟩
      · have E := Lib.hid e
        have ht : (a1 != b1) = true := bne_iff_ne.2 e
        clear e
        go_wp2
        go_region
        all_goals
          go_wp2
          go_ret
          exact ⟨by rw [decide_eq_false E.out]; simp, by first | exact KB.out | exact below_drew1 KB.out | exact pw_below_drewN KB.out _⟩
    · go_wp2
      go_ret
      exact ⟨by rw [KE.out.1 (by omega), KE.out.2 (by omega)]; simp, KB.out⟩

def outA2 (a0 a1 : Int) (k : Nat) : Array Value := #[.int .u8 (if 0 < k then a0 else 0), .int .u8 (if 1 < k then a1 else 0)]
set_option maxHeartbeats 2000000 in
theorem laws_toByteA2.calls (a0 a1 r1 r2 : Int) (w : World) (h : laws_toByteA2.f a0 a1 = some (r1, r2)) :
    Calls Try.prog 32 #[.agg #[.int .u8 a0, .int .u8 a1]] w fun e w' => e = .returned (.agg #[.int .u8 r1, .int .u8 r2]) ∧ Below w.heap.size w w' := by
  unfold laws_toByteA2.f at h
  simp only [Option.some.injEq, Prod.mk.injEq] at h
  obtain ⟨rfl, rfl⟩ := h
  go_enter Try.func32, Try.ntmps32
  go_wp2
  have H3 := Lib.hid (three_blocks w (.cells #[.int .u8 a0, .int .u8 a1] 79) (.cells #[.int .u8 0, .int .u8 0] 79) (.cells #[.int .u8 0, .int .u8 0] 79))
  have HB := Lib.hid (below_alloc (below_alloc (below_alloc (Below.refl _ w) (.cells #[.int .u8 a0, .int .u8 a1] 79)) (.cells #[.int .u8 0, .int .u8 0] 79)) (.cells #[.int .u8 0, .int .u8 0] 79))
  go_loopw [4] (fun i wr => ∃ k : Nat, k ≤ 2 ∧ i = .int .i64 k ∧ RowKit.Hid (wr.heap[w.heap.size]? = some (.cells #[.int .u8 a0, .int .u8 a1] 79) ∧ wr.heap[w.heap.size + 1]? = some (.cells #[.int .u8 0, .int .u8 0] 79) ∧ wr.heap[w.heap.size + 2]? = some (.cells (outA2 a0 a1 k) 79)) ∧ RowKit.Hid (Below w.heap.size w wr)) (fun i _ => 2 - (intOf i).toNat)
  case atStart => exact ⟨0, Nat.zero_le _, rfl, H3, HB⟩
  case round =>
    obtain ⟨k, hk, rfl, K, KB⟩ := hrel
    have k0 := Lib.hid (blk_cell K.out.1 0)
    have k1 := Lib.hid (blk_cell K.out.1 1)
    have l0 := Lib.hid (blk_cell K.out.2.2 0)
    have l1 := Lib.hid (blk_cell K.out.2.2 1)
    have m0 := Lib.hid (blk_cell K.out.2.1 0)
    have m1 := Lib.hid (blk_cell K.out.2.1 1)
    have hcase : k = 0 ∨ k = 1 ∨ k = 2 := by omega
    rcases hcase with rfl | rfl | rfl
    · have hv1 : wr.cell? ⟨w.heap.size, 0, none⟩ = some (.int .u8 a0) := k0.out.trans rfl
      have hv2 : wr.cell? ⟨w.heap.size + 2, 0, none⟩ = some (.int .u8 0) := l0.out.trans rfl
      have hf := blk_frozen K.out.2.2 0
      have P3 := Lib.hid (blk_put (cs' := outA2 a0 a1 1) K.out.2.2 0 (.int .u8 a0) rfl)
      have P1 := Lib.hid (blk_far (p := ⟨w.heap.size + 2, 0, none⟩) K.out.1 (by simp) (.int .u8 a0))
      have P2 := Lib.hid (blk_far (p := ⟨w.heap.size + 2, 0, none⟩) K.out.2.1 (by simp) (.int .u8 a0))
      go_wp2
      go_roundw
      case measure => simp [intOf]
      case rel => exact ⟨1, by omega, by go_num, Lib.hid ⟨P1.out, P2.out, P3.out⟩, Lib.hid (below_set KB.out (by omega))⟩
    · have hv1 : wr.cell? ⟨w.heap.size, 1, none⟩ = some (.int .u8 a1) := k1.out.trans rfl
      have hv2 : wr.cell? ⟨w.heap.size + 2, 1, none⟩ = some (.int .u8 0) := l1.out.trans rfl
      have hf := blk_frozen K.out.2.2 1
      have P3 := Lib.hid (blk_put (cs' := outA2 a0 a1 2) K.out.2.2 1 (.int .u8 a1) rfl)
      have P1 := Lib.hid (blk_far (p := ⟨w.heap.size + 2, 1, none⟩) K.out.1 (by simp) (.int .u8 a1))
      have P2 := Lib.hid (blk_far (p := ⟨w.heap.size + 2, 1, none⟩) K.out.2.1 (by simp) (.int .u8 a1))
      go_wp2
      go_roundw
      case measure => simp [intOf]
      case rel => exact ⟨2, by omega, by go_num, Lib.hid ⟨P1.out, P2.out, P3.out⟩, Lib.hid (below_set KB.out (by omega))⟩
    · have hv1 : wr.cell? ⟨w.heap.size + 2, 0, none⟩ = some (.int .u8 a0) := l0.out.trans rfl
      have hv2 : wr.cell? ⟨w.heap.size + 2, 1, none⟩ = some (.int .u8 a1) := l1.out.trans rfl
      have hu1 : wr.cell? ⟨w.heap.size + 1, 0, none⟩ = some (.int .u8 0) := m0.out.trans rfl
      have hu2 : wr.cell? ⟨w.heap.size + 1, 1, none⟩ = some (.int .u8 0) := m1.out.trans rfl
      have hf0 := blk_frozen K.out.2.1 0
      have hf1 := blk_frozen K.out.2.1 1
      have P2 := Lib.hid (blk_put (cs' := #[.int .u8 a0, .int .u8 a1]) (blk_put (cs' := #[.int .u8 a0, .int .u8 0]) K.out.2.1 0 (.int .u8 a0) rfl) 1 (.int .u8 a1) rfl)
      go_wp2
      refine bodyPost_ret (results_cell_row rfl _ _ (w.heap.size + 1) 79 #[.int .u8 a0, .int .u8 a1] (0, 0) _ rfl P2.out Try.underlying79 rfl (by kernel_rfl)) rfl ?_
      exact ⟨rfl, below_set (below_set KB.out (by omega)) (by omega)⟩

/-- Pairs that have been marked from a on: the first k of them. -/
def mA2 (a : Int) (i : Nat) : S79 := ⟨(a + 2 * i) % 256, (a + 2 * i + 1) % 256⟩
def mkA2 (l : List S79) (a : Int) (k : Nat) : List S79 := (List.range k).map (mA2 a) ++ l.drop k
def mkA2h (l : List S79) (a : Int) (k j : Nat) : List S79 := if j = 0 then mkA2 l a k else if j = 1 then (mkA2 l a k).set k ⟨(a + 2 * k) % 256, (rd_T79 (mkA2 l a k) (k : Nat)).f1⟩ else mkA2 l a (k + 1)
theorem mkA2_len (l : List S79) (a : Int) (k : Nat) (h : k ≤ l.length) : (mkA2 l a k).length = l.length := by simp [mkA2]; omega
theorem mkA2_zero (l : List S79) (a : Int) : mkA2 l a 0 = l := by simp [mkA2]
theorem mkA2h_len (l : List S79) (a : Int) (k j : Nat) (h : k < l.length) : (mkA2h l a k j).length = l.length := by
  unfold mkA2h
  split
  · exact mkA2_len l a k (by omega)
  · split
    · rw [List.length_set]; exact mkA2_len l a k (by omega)
    · exact mkA2_len l a (k + 1) (by omega)
theorem mkA2_set (l : List S79) (a : Int) (k : Nat) (h : k < l.length) (z : S79) : ((mkA2 l a k).set k z).set k (mA2 a k) = mkA2 l a (k + 1) := by
  rw [List.set_set]
  unfold mkA2
  rw [List.set_append_right _ _ (by simp), show k - ((List.range k).map (mA2 a)).length = 0 by simp, List.drop_eq_getElem_cons h, List.set_cons_zero, List.range_succ, List.map_append]
  simp
theorem rdA2_get (xs : List S79) (k : Nat) (h : k < xs.length) : rd_T79 xs (k : Int) = xs[k] := by
  unfold rd_T79
  simp [List.getD_eq_getElem?_getD, h]
theorem mkA2h_step (l : List S79) (a : Int) (k : Nat) (h : k < l.length) : (mkA2h l a k 1).set k ⟨(rd_T79 (mkA2h l a k 1) (k : Nat)).f0, (a + 2 * k + 1) % 256⟩ = mkA2 l a (k + 1) := by
  rw [rdA2_get _ k (by rw [mkA2h_len l a k 1 h]; exact h)]
  show ((mkA2 l a k).set k _).set k _ = _
  have e : (mkA2h l a k 1)[k]'(by rw [mkA2h_len l a k 1 h]; exact h) = ⟨(a + 2 * k) % 256, (rd_T79 (mkA2 l a k) (k : Nat)).f1⟩ := List.getElem_set_self (by rw [List.length_set, mkA2_len l a k (by omega)]; exact h)
  rw [e]
  exact mkA2_set l a k h _

instance decA2 : DecidableEq S79 := fun a b => decidable_of_iff (a.f0 = b.f0 ∧ a.f1 = b.f1) ⟨fun h => by cases a; cases b; obtain ⟨rfl, rfl⟩ := h; rfl, fun h => by rw [h]; exact ⟨rfl, rfl⟩⟩
def laws_markByteA2S.f (l0 : List S79) (a1 : Int) : Option (Int × List S79) := if 0 ≤ a1 ∧ a1 + 2 * (l0.length : Int) ≤ 4611686018427387904 then some (a1 + 2 * (l0.length : Int), mkA2 l0 a1 l0.length) else none
def laws_heldByteA2S.f (l0 : List S79) (a1 : Int) : Option Int := if (0 ≤ a1 ∧ a1 + 2 * (l0.length : Int) ≤ 4611686018427387904) ∧ l0 = mkA2 l0 a1 l0.length then some (a1 + 2 * (l0.length : Int)) else none

end Go.Proofs.Ytnacfljfalkonaa.Q
