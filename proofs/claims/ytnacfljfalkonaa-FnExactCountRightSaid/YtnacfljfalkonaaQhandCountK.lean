/- impl.CountRight: the search that calls itself; by hand. -/
import Derived.Test.YtnacfljfalkonaaQhandCountM
import Derived.Test.YtnacfljfalkonaaBytes
import Derived.Shelf.Abstract
namespace Go.Proofs.Ytnacfljfalkonaa.Q
open Go.RowKit Go.Proofs.YtnacfljfalkonaaW.PrintWords Go.Proofs.YtnacfljfalkonaaW.PrintLast Go.Proofs.YtnacfljfalkonaaW.PrintMore
open Go.Proofs.Ytnacfljfalkonaa.Pure Go.Proofs.Ytnacfljfalkonaa.Bytes
set_option linter.unusedVariables false
set_option linter.unusedSimpArgs false

theorem sizeB (A : Option Addr) (n c : Nat) (w : World) : Calls Try.prog 28 #[.slice A n c] w fun e w' => e = .returned (.int .i64 n) ∧ Below w.heap.size w w' := by
  go_enter Try.func28, Try.ntmps28
  go_wp2
  go_ret
  exact ⟨rfl, Below.refl _ _⟩
/-- What the search finds in its boxes: the builder, the map, itself. -/
structure CB (Ap : Option Addr) (np cp : Nat) (An : Option Addr) (nn cn gB gK gF gM : Nat) (S : Int → Int → Int → Int) (w0 W : World) : Prop where
  kB : W.heap[gB]? = some (.cells #[.slice Ap np cp, .slice An nn cn] 65 (0, 0))
  kK : W.heap[gK]? = some (.cells #[.map (some gM)] 67 (0, 0))
  kF : W.heap[gF]? = some (.cells #[.func (.func 27) #[] #[.pointer (some ⟨gB, 0, none⟩), .pointer (some ⟨gK, 0, none⟩), .pointer (some ⟨gF, 0, none⟩)]] 68 (0, 0))
  kM : ∃ es clock, W.heap[gM]? = some (.map es clock) ∧ Fine S es.toList
  ne : gM ≠ gB ∧ gM ≠ gK ∧ gM ≠ gF
  le : w0.heap.size ≤ gM
  b : Below w0.heap.size w0 W
section
variable {Ap : Option Addr} {np cp : Nat} {An : Option Addr} {nn cn gB gK gF gM : Nat} {S : Int → Int → Int → Int} {w0 W W' : World}
theorem lt_of_get {o : Obj} {g : Nat} (h : W.heap[g]? = some o) : g < W.heap.size := (Array.getElem?_eq_some_iff.1 h).1
theorem CB.step (h : CB Ap np cp An nn cn gB gK gF gM S w0 W) (hb : Below W.heap.size W W') : CB Ap np cp An nn cn gB gK gF gM S w0 W' := by
  obtain ⟨es, cl, h1, h2⟩ := h.kM
  exact ⟨(hb.block _ (lt_of_get h.kB)).trans h.kB, (hb.block _ (lt_of_get h.kK)).trans h.kK, (hb.block _ (lt_of_get h.kF)).trans h.kF, ⟨es, cl, (hb.block _ (lt_of_get h1)).trans h1, h2⟩, h.ne, h.le, below_step h.b hb⟩
theorem CB.put (h : CB Ap np cp An nn cn gB gK gF gM S w0 W) {es : Array MapEntry} {cl : Nat} (hf : Fine S es.toList) : CB Ap np cp An nn cn gB gK gF gM S w0 { W with heap := W.heap.setIfInBounds gM (.map es cl) } := by
  obtain ⟨es0, cl0, h1, _⟩ := h.kM
  obtain ⟨n1, n2, n3⟩ := h.ne
  have hs := MapKept.heap_set (o' := .map es cl) h1
  refine ⟨(hs.2 _ n1.symm).trans h.kB, (hs.2 _ n2.symm).trans h.kK, (hs.2 _ n3.symm).trans h.kF, ⟨es, cl, hs.1, hf⟩, h.ne, h.le, ?_⟩
  have hb := h.b
  have hle := h.le
  exact ⟨hb.os, hb.tape, hb.output, by simpa using hb.size, fun i hi => (hs.2 i (by omega)).trans (hb.block i hi)⟩
end
theorem ret_i {a b : Int} (h : a = b) : Ending.returned (.int .i64 a) = .returned (.int .i64 b) := by rw [h]
theorem Fv_less {L : List S46} {g : Nat → Nat → Bool} {n l : Int} {k : Nat} (h : n - vL L k < 0 ∨ l - (zL L k : Int) < 0) : Fv L g n l k = 0 := by unfold Fv; rw [if_pos h]
theorem Fv_one {L : List S46} (hL : OkL L) {g : Nat → Nat → Bool} {n l : Int} {k : Nat} (h : ¬ (n - vL L k < 0 ∨ l - (zL L k : Int) < 0)) (h0 : n - vL L k = 0) : Fv L g n l k = 1 := by unfold Fv; rw [if_neg h, h0, cnt_one hL]
theorem Fv_more {L : List S46} {g : Nat → Nat → Bool} {n l : Int} {k : Nat} (h : ¬ (n - vL L k < 0 ∨ l - (zL L k : Int) < 0)) : Fv L g n l k = cnt L g (l - (zL L k : Int)).toNat (n - vL L k) k := by unfold Fv; rw [if_neg h]
def fol (m : List MP) (L : List S46) (k : Nat) : List Nat := (List.range' 0 L.length).filter (nx m L k)
theorem own_fol (m : List MP) (L : List S46) (k : Nat) (hk : k < L.length) : ownP m L k = (fol m L k).map fun (q : Nat) => (q : Int) := by
  unfold ownP fol
  congr 1
  refine List.filter_congr (fun q _ => ?_)
  unfold nx
  rw [if_neg (by omega)]
theorem fol_lt (m : List MP) (L : List S46) (k : Nat) : ∀ q ∈ fol m L k, q < L.length := fun q hq => by
  have := (List.mem_filter.1 hq).1
  rw [List.mem_range'] at this
  obtain ⟨i, hi, rfl⟩ := this
  omega
theorem fol_len (m : List MP) (L : List S46) (k : Nat) : (fol m L k).length ≤ L.length := by
  unfold fol
  exact Nat.le_trans (List.length_filter_le ..) (by simp)
theorem nextP_row (m : List MP) (L : List S46) (k : Nat) (h : k < (nextP m L).length) : (nextP m L)[k] = ownP m L k := by simp [nextP]
theorem nextP_len (m : List MP) (L : List S46) : (nextP m L).length = L.length := by simp [nextP]
theorem sumF_take {L : List S46} {g : Nat → Nat → Bool} {n l : Int} (fl : List Nat) (i : Nat) (h : i < fl.length) : sumF L g n l (fl.take (i + 1)) 0 = wrap64 (sumF L g n l (fl.take i) 0 + Fv L g n l fl[i]) := by
  rw [List.take_succ_eq_append_getElem h]
  unfold sumF
  rw [List.foldl_append]
  rfl
end Go.Proofs.Ytnacfljfalkonaa.Q
