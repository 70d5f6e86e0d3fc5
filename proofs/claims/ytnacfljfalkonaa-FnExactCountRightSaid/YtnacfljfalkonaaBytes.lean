/- A row of bytes that '[]byte(s)' made: its cells, a store into it, what it reads as; no condition. -/
import Derived.Test.YtnacfljfalkonaaWLess
import Derived.Lib.ConvBytes
import Derived.WalkKit
namespace Go.Proofs.Ytnacfljfalkonaa.Bytes
open Go.RowKit Go.Proofs.YtnacfljfalkonaaW.PrintWords
set_option linter.unusedVariables false

/-- Block g is the row of a conversion: cap cells of type e, the first of them these bytes. -/
structure BRow (e : TypeId) (w : World) (g cap : Nat) (xs : List Int) : Prop where
  le : xs.length ≤ cap
  row : ∃ cs : Array Value, w.heap[g]? = some (.cells cs e (cap, cap + 1)) ∧ cs.size = cap ∧ ∀ (i : Nat) (x : Int), xs[i]? = some x → cs[i]? = some (.int .u8 x)

theorem bytesOf_get (s : ByteArray) (i : Nat) (h : i < s.size) : (bytesOf s)[i]? = some (bt s i) := by
  simp [bytesOf, bt, h]
  rfl
theorem made (w : World) (e : TypeId) (s : ByteArray) (h : s.size ≤ grownCap w s.size 0 e) : BRow e (Lib.bytesWorld w e s) w.heap.size (grownCap w s.size 0 e) (bytesOf s) := by
  have hsz : (Lib.bytesCells w e s).size = grownCap w s.size 0 e := by
    simp only [Lib.bytesCells, Array.size_append, Array.size_map, Array.size_replicate]
    have : s.data.size = s.size := rfl
    omega
  refine ⟨by rw [bytesOf_length]; exact h, _, ?_, hsz, fun i x hx => ?_⟩
  · rw [Lib.bytesWorld_at_new, hsz]
  · have hi : i < (bytesOf s).length := (List.getElem?_eq_some_iff.1 hx).1
    rw [bytesOf_length] at hi
    have hi' : i < s.data.size := hi
    rw [bytesOf_get s i hi] at hx
    cases hx
    simp [Lib.bytesCells, Array.getElem?_append, bt, hi]
    rfl
theorem below_bytes (w : World) (e : TypeId) (s : ByteArray) : Below w.heap.size w (Lib.bytesWorld w e s) :=
  ⟨rfl, rfl, rfl, by rw [Lib.bytesWorld_size]; omega, fun i hi => Lib.bytesWorld_at_old w e s i hi⟩

section
variable {e : TypeId} {w w1 : World} {g cap : Nat} {xs : List Int}
theorem BRow.lt (h : BRow e w g cap xs) : g < w.heap.size := by
  obtain ⟨cs, hc, _⟩ := h.row
  exact (Array.getElem?_eq_some_iff.1 hc).1
theorem BRow.cell (h : BRow e w g cap xs) (i : Nat) (hi : i < xs.length) : w.cell? ⟨g, i, none⟩ = some (.int .u8 (xs.getD i 0)) := by
  obtain ⟨cs, hc, hs, hx⟩ := h.row
  rw [cell_of_row w g i cs e (cap, cap + 1) hc]
  exact hx i _ (by rw [List.getD_eq_getElem?_getD, List.getElem?_eq_getElem hi]; rfl)
theorem BRow.frozen (h : BRow e w g cap xs) (i : Nat) (hi : i < xs.length) : w.frozen? ⟨g, i, none⟩ = false := by
  obtain ⟨cs, hc, hs, hx⟩ := h.row
  have := h.le
  simp [World.frozen?, hc]
  omega
theorem BRow.below (h : BRow e w g cap xs) (hb : Below w.heap.size w w1) : BRow e w1 g cap xs := by
  obtain ⟨cs, hc, hs, hx⟩ := h.row
  exact ⟨h.le, cs, (hb.block g h.lt).trans hc, hs, hx⟩
theorem BRow.same (h : BRow e w g cap xs) (hb : w1.heap[g]? = w.heap[g]?) : BRow e w1 g cap xs := by
  obtain ⟨cs, hc, hs, hx⟩ := h.row
  exact ⟨h.le, cs, hb.trans hc, hs, hx⟩
theorem BRow.drewN (h : BRow e w g cap xs) (n : Nat) : BRow e (w.drewN n) g cap xs := h.same rfl
theorem BRow.drew (h : BRow e w g cap xs) : BRow e w.drew g cap xs := h.same rfl
theorem BRow.set (h : BRow e w g cap xs) (i : Nat) (hi : i < xs.length) (x : Int) : BRow e (w.setCell ⟨g, i, none⟩ (.int .u8 x)) g cap (xs.set i x) := by
  obtain ⟨cs, hc, hs, hx⟩ := h.row
  refine ⟨by rw [List.length_set]; exact h.le, cs.setIfInBounds i (.int .u8 x), ?_, by simp [hs], fun j y hy => ?_⟩
  · have hlt := h.lt
    simp [World.setCell, Array.getElem?_modify, hc]
  · have hle := h.le
    by_cases hj : j = i
    · subst hj
      rw [List.getElem?_set_self hi] at hy
      cases hy
      simp [show j < cs.size by omega]
    · rw [List.getElem?_set_ne (Ne.symm hj)] at hy
      rw [Array.getElem?_setIfInBounds_ne (Ne.symm hj)]
      exact hx j y hy
theorem BRow.string {P : Program} (h : BRow e w g cap xs) {src e' dst : TypeId} (hs : P.underlying src = some (.slice e')) (he : P.underlying e' = some (.int .u8)) (hd : P.underlying dst = some .string) (c : Nat) (n : Nat) (hn : xs.length = n) :
    (convert src dst (.slice (some ⟨g, 0, none⟩) n c)).run P w = .ok (.string (strOfNums xs)) w := by
  subst hn
  exact run_convert_bytes_arg w src e' hs he g 0 xs.length c xs rfl (fun i hi => by rw [Nat.zero_add]; exact h.cell i hi) dst hd
end
/-- One block has been written, and nothing else. -/
structure OnlyAt (g : Nat) (w w1 : World) : Prop where
  os : w1.os = w.os
  tape : w1.tape = w.tape
  output : w1.output = w.output
  size : w1.heap.size = w.heap.size
  block : ∀ i, i ≠ g → w1.heap[i]? = w.heap[i]?
theorem OnlyAt.refl (g : Nat) (w : World) : OnlyAt g w w := ⟨rfl, rfl, rfl, rfl, fun _ _ => rfl⟩
theorem OnlyAt.drewN {g : Nat} {w w1 : World} (h : OnlyAt g w w1) (n : Nat) : OnlyAt g w (w1.drewN n) := ⟨h.os, h.tape, h.output, h.size, h.block⟩
theorem OnlyAt.drew {g : Nat} {w w1 : World} (h : OnlyAt g w w1) : OnlyAt g w w1.drew := ⟨h.os, h.tape, h.output, h.size, h.block⟩
theorem OnlyAt.set {g : Nat} {w w1 : World} (h : OnlyAt g w w1) (i : Nat) (v : Value) : OnlyAt g w (w1.setCell ⟨g, i, none⟩ v) :=
  ⟨h.os, h.tape, h.output, by simp [World.setCell, h.size], fun j hj => by
    rw [← h.block j hj]
    simp [World.setCell, Array.getElem?_modify, Ne.symm hj]⟩
theorem OnlyAt.below {B g : Nat} {w0 w w1 : World} (h : OnlyAt g w w1) (hb : Below B w0 w) (hg : B ≤ g) : Below B w0 w1 :=
  ⟨h.os.trans hb.os, h.tape.trans hb.tape, h.output.trans hb.output, by rw [h.size]; exact hb.size, fun i hi => (h.block i (by omega)).trans (hb.block i hi)⟩
end Go.Proofs.Ytnacfljfalkonaa.Bytes
