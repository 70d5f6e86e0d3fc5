/- spec.l01Face, spec.ValidFace, impl.ValidFace, by hand. -/
import Derived.Test.YtkldhleiipfaaaaDoorQhandShape
namespace Go.Proofs.YtkldhleiipfaaaaDoor.Q
open Go.RowKit Go.Proofs.YtkldhleiipfaaaaDoorW.PrintWords Go.Proofs.YtkldhleiipfaaaaDoorW.PrintLast Go.Proofs.YtkldhleiipfaaaaDoorW.PrintMore
open Go.Proofs.YtkldhleiipfaaaaDoor.Pure
set_option linter.unusedVariables false
set_option linter.unusedSimpArgs false

def validB (ws : List Int) (sp gp : Int) (l : List S48) : Bool := faceB ws sp gp l && decide ((l.length : Int) ≤ 12)

set_option maxHeartbeats 4000000 in
theorem l01FaceC (ws : List Int) (hx : ws.length = 26) (sp gp : Int) (A : Option Addr) (c : Nat) (l : List S48) (g : Nat) (w : World) (hg : w.heap[g]? = some (.cells (FV ws sp gp (.slice A l.length c)) 31)) (hr : Kd.C k48 w A l.length l) (hc : l.length ≤ c) (hl : l.length ≤ 1048576) (hf : Fit ws sp gp l) :
    Calls Tryd.prog 15 #[.pointer (some ⟨g, 0, none⟩)] w fun e w' => e = .returned (.bool (validB ws sp gp l)) ∧ Below w.heap.size w w' := by
  have HS := Lib.hid (shapeC ws hx sp gp A c l g w hg hr hc hl hf)
  have c28 := (blk_cell hg 28).trans (FV_28 ws hx _ _ _)
  clear hg hr hc hl hf hx
  go_enter Tryd.func15, Tryd.ntmps15
  by_cases h : (l.length : Int) ≤ 12
  · have E := Lib.hid (show validB ws sp gp l = faceB ws sp gp l by unfold validB; rw [decide_eq_true h, Bool.and_true])
    obtain ⟨b, hb⟩ : ∃ b, faceB ws sp gp l = b := ⟨_, rfl⟩
    have EB := Lib.hid hb
    clear hb
    go_wp2_with (first
      | (go_at_call 34
         with_reducible refine HS.out.mono ?_
         rintro e w1 ⟨rfl, hb⟩
         rw [EB.out]
         have B1 := Lib.hid hb
         clear hb))
    go_ret
    exact ⟨ret_b (E.out.trans EB.out), B1.out⟩
  · have E := Lib.hid (show validB ws sp gp l = false by unfold validB; rw [decide_eq_false h, Bool.and_false])
    go_wp2
    go_ret
    exact ⟨ret_b E.out, Below.refl _ _⟩

set_option maxHeartbeats 4000000 in
theorem implValidC (ws : List Int) (hx : ws.length = 26) (sp gp : Int) (A : Option Addr) (c : Nat) (l : List S48) (w : World) (hr : Kd.C k48 w A l.length l) (hc : l.length ≤ c) (hl : l.length ≤ 1048576) (hf : Fit ws sp gp l) (b : Bool) (hb : validB ws sp gp l = b) :
    Calls Tryd.prog 19 #[.agg (FV ws sp gp (.slice A l.length c))] w fun e w' => e = .returned (.bool b) ∧ Below w.heap.size w w' := by
  go_enter Tryd.func19, Tryd.ntmps19
  obtain ⟨M, hM⟩ : ∃ M : Nat, M = 29 := ⟨_, rfl⟩
  obtain ⟨U, hU⟩ : ∃ U : TypeId, U = 31 := ⟨_, rfl⟩
  have hzU : ∀ w, (sizeOf U).run Tryd.prog w = .ok M w := fun w => by rw [hM, hU]; exact Tryd.sizeOf31 w
  have haU : ∀ w, (isAgg U).run Tryd.prog w = .ok true w := fun w => by rw [hU]; exact Tryd.isAgg31 w
  have e2 : ∀ x, Op.load 31 x = Op.load U x := fun x => by rw [hU]
  simp only [e2]
  clear e2
  have H1 := Lib.hid (heap_alloc_new w (.cells (FV ws sp gp (.slice A l.length c)) 31))
  have HB := Lib.hid (below_alloc (Below.refl w.heap.size w) (.cells (FV ws sp gp (.slice A l.length c)) 31))
  have HS := Lib.hid (isFaceC ws hx sp gp A c l _ (Kd.C_below hr HB.out) hc hl hf)
  have q0 := loadF H1.out hx hM
  have HX := Lib.hid hx
  obtain ⟨f, hff⟩ : ∃ f, faceB ws sp gp l = f := ⟨_, rfl⟩
  have EF := Lib.hid hff
  have EB := Lib.hid (show (f && decide ((l.length : Int) ≤ 12)) = b by rw [← hff]; exact hb)
  have SZ := Lib.hid (show w.heap.size < (w.alloc (.cells (FV ws sp gp (.slice A l.length c)) 31)).heap.size by simp)
  clear hr hc hl hf hx hb hff hM hU
  cases f with
  | false =>
    go_wp2_with (first
      | (go_at_call 37
         with_reducible refine HS.out.mono ?_
         rintro e w1 ⟨rfl, hb⟩
         rw [EF.out]
         have B1 := Lib.hid (below_step HB.out hb)
         clear hb))
    go_ret
    exact ⟨ret_b EB.out.symm, B1.out⟩
  | true =>
    go_wp2_with (first
      | (go_at_call 37
         with_reducible refine HS.out.mono ?_
         rintro e w1 ⟨rfl, hb⟩
         rw [EF.out]
         have B1 := Lib.hid (below_step HB.out hb)
         have c28 := (blk_cell ((hb.block w.heap.size SZ.out).trans H1.out) 28).trans (FV_28 ws HX.out _ _ _)
         clear hb))
    go_ret
    exact ⟨by rw [← EB.out]; rfl, B1.out⟩
end Go.Proofs.YtkldhleiipfaaaaDoor.Q
