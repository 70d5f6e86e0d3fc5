/- Small facts on bytes in memory and on worlds, for walks by hand. -/
import Derived.Test.YtiapaggkbhdnkaaDoorQ0
import Derived.Outline
import Derived.Lib.Hide
namespace Go.Proofs.YtiapaggkbhdnkaaDoor.Q
open Go.RowKit Go.Proofs.YtiapaggkbhdnkaaDoorW.PrintWords Go.Proofs.YtiapaggkbhdnkaaDoorW.PrintLast Go.Proofs.YtiapaggkbhdnkaaDoorW.PrintMore
set_option linter.unusedVariables false

theorem bcell {w w' : World} {p : Addr} {v : Value} (hb : Below w.heap.size w w') (h : w.cell? p = some v) : w'.cell? p = some v := (hb.cell (World.block_lt_of_cell? w _ h)).trans h
theorem ne_after {α : Type} {d : Kd α} {e base : Nat} {ok : Nat → Prop} {W : World} {u v v1 : Value} {ys : List α} (h : d.R e W base ok u ys) (hne : v.ownBlock ≠ u.ownBlock) (hat : v1.ownBlock = v.ownBlock ∨ ∃ b, v1.ownBlock = some b ∧ W.heap.size ≤ b) : v1.ownBlock ≠ u.ownBlock := by
  rcases hat with h1 | ⟨b, h1, hb⟩
  · rw [h1]; exact hne
  · rw [h1]
    intro he
    have := ((Kd.R_bound h).1 b he.symm).2.2.1
    omega
theorem ne_new {α : Type} {d : Kd α} {e base : Nat} {ok : Nat → Prop} {W : World} {u v1 : Value} {ys : List α} (h : d.R e W base ok u ys) (hat : ∃ b, v1.ownBlock = some b ∧ W.heap.size ≤ b) : u.ownBlock ≠ v1.ownBlock := by
  obtain ⟨b, h1, hb⟩ := hat
  rw [h1]
  intro he
  have := ((Kd.R_bound h).1 b he).2.2.1
  omega
theorem map_stepT {α β : Type} (f : α → β) (l : List α) (k : Nat) (h : k < l.length) : (l.take (k + 1)).map f = (l.take k).map f ++ [f l[k]] := by
  rw [List.take_succ_eq_append_getElem h, List.map_append]
  rfl
theorem two_cellsT {w : World} {g : Nat} {a b : Int} (h0 : w.cell? ⟨g, 0, none⟩ = some (.int .u8 a)) (h1 : w.cell? ⟨g, 1, none⟩ = some (.int .u8 b)) (i : Nat) (hi : i < 2) : w.cell? ⟨g, 0 + i, none⟩ = some (.int .u8 ([a, b].getD i 0)) := by
  have : i = 0 ∨ i = 1 := by omega
  rcases this with rfl | rfl
  · exact h0
  · exact h1
theorem below_size2 {w W : World} (B : Nat) (h : Below w.heap.size w W) (hB : B ≤ w.heap.size) : Below B w W := ⟨h.os, h.tape, h.output, h.size, fun i hi => h.block i (by omega)⟩
end Go.Proofs.YtiapaggkbhdnkaaDoor.Q
