/- What the laws on faces have in common: toFace and szFace in the form that they want, and a face laid into a new block. -/
import Derived.Test.YtkldhleiipfaaaaDoorQSm
import Derived.Test.YtkldhleiipfaaaaDoorQhandIsFace
namespace Go.Proofs.YtkldhleiipfaaaaDoor.Q
open Go.RowKit Go.Proofs.YtkldhleiipfaaaaDoorW.PrintWords Go.Proofs.YtkldhleiipfaaaaDoorW.PrintLast Go.Proofs.YtkldhleiipfaaaaDoorW.PrintMore
open Go.Proofs.YtkldhleiipfaaaaDoor.Pure
set_option linter.unusedVariables false
set_option linter.unusedSimpArgs false

/-- toFace, its row read alone. -/
theorem toFaceM (ws : List Int) (hx : ws.length = 26) (sp gp : Int) (A : Option Addr) (c : Nat) (l : List S69) (m : List S48) (hm : m = l.map toPr) (w : World) (hr : Kd.C k69 w A l.length l) (hc : l.length ≤ c) (hl : l.length ≤ 1048576) :
    Calls Tryd.prog 7 #[.agg (FV ws sp gp (.slice A l.length c))] w fun e w' => ∃ B d, e = .returned (.agg (FV ws sp gp (.slice B m.length d))) ∧ Kd.C k48 w' B m.length m ∧ m.length ≤ d ∧ Below w.heap.size w w' := by
  refine (toFaceC ws hx sp gp A c l w hr hc hl).mono ?_
  rintro e w' ⟨B, d, rfl, hR, hb⟩
  have hn : m.length = l.length := by rw [hm, List.length_map]
  have h := Kd.R_reads' hR
  rw [← hm] at h
  rw [hn]
  rw [hn] at h
  exact ⟨B, d, rfl, h.2.2, h.2.1, hb⟩
theorem szFaceR (ws : List Int) (hx : ws.length = 26) (sp gp : Int) (A : Option Addr) (c : Nat) (l : List S69) (b : Int) (h0 : 0 ≤ b) (hb : b ≤ 1048576) (w : World) (hr : Kd.C k69 w A l.length l) (hc : l.length ≤ c) (hl : l.length ≤ 9223372036854775807) (r : Int) (h : (if b - (l.length : Int) < 0 then -1 else b - (l.length : Int)) = r) :
    Calls Tryd.prog 5 #[.agg (FV ws sp gp (.slice A l.length c)), .int .i64 b] w fun e w' => e = .returned (.int .i64 r) ∧ Below w.heap.size w w' := by
  subst h
  exact szFaceC ws hx sp gp A c l b h0 hb w hr hc hl
/-- A new block, and a face laid into it. -/
theorem boxed (W : World) (U : TypeId) (ws : List Int) (sp gp : Int) (v : Value) :
    Below W.heap.size W ((W.alloc (.cells ZF U)).setRow W.heap.size (FV ws sp gp v)) ∧ ((W.alloc (.cells ZF U)).setRow W.heap.size (FV ws sp gp v)).heap[W.heap.size]? = some (.cells (FV ws sp gp v) U) ∧ W.heap.size < ((W.alloc (.cells ZF U)).setRow W.heap.size (FV ws sp gp v)).heap.size := by
  refine ⟨below_setRow (below_alloc (Below.refl _ _) _) (Nat.le_refl _) _, ?_, by rw [size_setRow]; simp⟩
  exact setRow_heap _ _ ZF _ _ _ (heap_alloc_new _ _)
theorem store_new (W : World) (U : TypeId) (ws : List Int) (hx : ws.length = 26) (sp gp : Int) (A : Option Addr) (n c : Nat) :
    (storeCells ⟨W.heap.size, 0, none⟩ (FV ws sp gp (.slice A n c)).toList 0).run Tryd.prog (W.alloc (.cells ZF U)) = .ok () ((W.alloc (.cells ZF U)).setRow W.heap.size (FV ws sp gp (.slice A n c))) :=
  storeF (ws := Z26) (sp := 0) (gp := 0) (v := .slice none 0 0) (heap_alloc_new _ _) Z26_len hx
theorem wf8 {x : Int} (h : (Lit.int .i8 x).wf = true) : -128 ≤ x ∧ x ≤ 127 := by
  have e1 : IntKind.i8.min = -128 := rfl
  have e2 : IntKind.i8.max = 127 := rfl
  simp only [Lit.wf] at h
  simp at h
  omega
theorem fitIn {ws : List Int} (hx : ws.length = 26) {sp gp : Int} {l : List S69} (h : (∀ x ∈ ws, (Lit.int .i8 x).wf = true) ∧ (Lit.int .i8 sp).wf = true ∧ (Lit.int .i8 gp).wf = true ∧ ∀ y ∈ l, (Lit.int .u8 y.f0).wf = true ∧ (Lit.int .u8 y.f1).wf = true ∧ (Lit.int .i8 y.f2).wf = true) : Fit ws sp gp (l.map toPr) := by
  refine ⟨fun k hk => ?_, wf8 h.2.1, wf8 h.2.2.1, fun k hk => ?_⟩
  · rw [rd_get _ _ (by omega)]
    exact wf8 (h.1 _ (List.getElem_mem _))
  · rw [rd46_get _ _ hk, List.getElem_map]
    exact wf8 (h.2.2.2 _ (List.getElem_mem _)).2.2
end Go.Proofs.YtkldhleiipfaaaaDoor.Q
