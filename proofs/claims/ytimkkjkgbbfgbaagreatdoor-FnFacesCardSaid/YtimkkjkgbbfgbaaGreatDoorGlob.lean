/- What the package's variables hold when a call begins, kept by whatever leaves old memory as it was; no condition. -/
import Derived.Test.YtimkkjkgbbfgbaaGreatDoorShelfL
import Derived.Below
import Derived.WideShapes
namespace Go.Proofs.YtimkkjkgbbfgbaaGreatDoor
open Go.RowKit
/-- The world in which the run began had the form that every row asks, and what lay there lies there still. -/
structure Glob (w : World) : Prop where
  out : ∃ w0 : World, w0.ShapedOpen Tryz.prog ∧ Below w0.heap.size w0 w
theorem Glob.of {w : World} (h : w.ShapedOpen Tryz.prog) : Glob w := ⟨w, h, Below.refl _ _⟩
theorem Glob.step {w w1 : World} (h : Glob w) (hb : Below w.heap.size w w1) : Glob w1 := by
  obtain ⟨w0, h0, hb0⟩ := h.out
  exact ⟨w0, h0, hb0.trans ⟨hb.os, hb.tape, hb.output, hb.size, fun i hi => hb.block i (Nat.lt_of_lt_of_le hi hb0.size)⟩⟩
theorem Glob.maxLen {w : World} (h : Glob w) : ∃ m, w.cell? ⟨2, 0, none⟩ = some (.int .i64 m) := by
  obtain ⟨w0, h0, hb0⟩ := h.out
  obtain ⟨m, hm⟩ : ∃ m, w0.cell? ⟨2, 0, none⟩ = some (.int .i64 m) := Go.Proofs.cell_of_shapedOpen_int (zero := #[.int .i64 0]) (t := 3) h0 (of_decide_eq_true (by kernel_rfl)) (by kernel_rfl) rfl (by kernel_rfl) (by kernel_rfl) Tryz.underlying3
  exact ⟨m, (hb0.cell (p := ⟨2, 0, none⟩) (World.block_lt_of_cell? w0 _ hm)).trans hm⟩
end Go.Proofs.YtimkkjkgbbfgbaaGreatDoor
