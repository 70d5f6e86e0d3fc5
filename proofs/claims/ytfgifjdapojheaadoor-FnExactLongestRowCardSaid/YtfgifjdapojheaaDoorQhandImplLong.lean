/- impl.rows and impl.LongestRow, by hand. -/
import Derived.Test.YtfgifjdapojheaaDoorQhandChoose
import Derived.Laws.EntriesVeiled
import Derived.Test.YtfgifjdapojheaaDoorQhandValidPieces
namespace Go.Proofs.YtfgifjdapojheaaDoor.Q
open Go.RowKit Go.Proofs.YtfgifjdapojheaaDoorW.PrintWords Go.Proofs.YtfgifjdapojheaaDoorW.PrintLast Go.Proofs.YtfgifjdapojheaaDoorW.PrintMore
open Go.Proofs.YtfgifjdapojheaaDoor.Pure
set_option linter.unusedVariables false
set_option linter.unusedSimpArgs false

theorem two_blocks (w : World) (x y : Obj) : ((w.alloc x).alloc y).heap[w.heap.size]? = some x ∧ ((w.alloc x).alloc y).heap[w.heap.size + 1]? = some y := by
  refine ⟨?_, ?_⟩
  · rw [heap_alloc_old _ _ (by simp), heap_alloc_new]
  · have := heap_alloc_new (w.alloc x) y
    simpa using this
theorem three_blocks (w : World) (x y z : Obj) : (((w.alloc x).alloc y).alloc z).heap[w.heap.size]? = some x ∧ (((w.alloc x).alloc y).alloc z).heap[w.heap.size + 1]? = some y ∧ (((w.alloc x).alloc y).alloc z).heap[w.heap.size + 2]? = some z := by
  refine ⟨?_, ?_, ?_⟩
  · rw [heap_alloc_old _ _ (by simp; omega)]
    exact (two_blocks w x y).1
  · rw [heap_alloc_old _ _ (by simp)]
    exact (two_blocks w x y).2
  · have := heap_alloc_new ((w.alloc x).alloc y) z
    simpa [Nat.add_assoc] using this
set_option maxHeartbeats 2000000 in
theorem rowsC (l : List S44) (hl : l.length ≤ 8) (A : Option Addr) (c : Nat) (hc : l.length ≤ c) (w0 : World) (hr : Kd.C k44 w0 A l.length l) (gb : Nat) (vb : Value) (best : List Int) (W : World) (hb0 : Below w0.heap.size w0 W) (hle : w0.heap.size ≤ gb) (hk : W.heap[gb]? = some (.cells #[vb] 24 (0, 0))) (hR : Kd.R (Kd.int .i64) 2 W w0.heap.size (fun k => k ≠ gb) vb best) :
    Calls Tryd.prog 18 #[.slice A l.length c, .func (.func 19) #[] #[.pointer (some ⟨gb, 0, none⟩)]] W fun e w' => e = .returned (.tuple #[]) ∧ ∃ vb', w'.heap[gb]? = some (.cells #[vb'] 24 (0, 0)) ∧ Kd.R (Kd.int .i64) 2 w' w0.heap.size (fun k => k ≠ gb) vb' (longGo l (l.length + 1) [] best) ∧ Below w0.heap.size w0 w' := by
  have EC := Lib.hid (show ∀ args w, (callFunc 28 args).run Tryd.prog w = .ok (.enter 28 args) w from enters_of Tryd.func28 (by kernel_rfl) rfl)
  obtain ⟨fC, hfC⟩ : ∃ fC : Value, fC = .func (.func 28) #[] #[.pointer (some ⟨W.heap.size + 1, 0, none⟩), .pointer (some ⟨W.heap.size, 0, none⟩), .pointer (some ⟨W.heap.size + 1 + 1, 0, none⟩)] := ⟨_, rfl⟩
  have hlt := blk_lt hk
  have hH := three_blocks W (.cells #[.slice A l.length c] 27) (.cells #[.func (.func 19) #[] #[.pointer (some ⟨gb, 0, none⟩)]] 47) (.cells #[fC] 47)
  have hBX := below_alloc (below_alloc (below_alloc (Below.refl W.heap.size W) (.cells #[.slice A l.length c] 27)) (.cells #[.func (.func 19) #[] #[.pointer (some ⟨gb, 0, none⟩)]] 47)) (.cells #[fC] 47)
  have hz : w0.heap.size ≤ W.heap.size := hb0.size
  rw [hfC] at hH hBX
  have HIX := Lib.hid (show CH A c l.length (W.heap.size + 1) W.heap.size (W.heap.size + 1 + 1) gb vb w0 _ from
    ⟨⟨by omega, by omega, by omega⟩, hle, hH.2.1, hH.1, hH.2.2, (hBX.block gb hlt).trans hk, below_step hb0 hBX⟩)
  have HRb := Lib.hid (Kd.R_below (Kd.R_mono (Kd.R_bound hR) (fun k hk2 => show okR (W.heap.size + 1) W.heap.size (W.heap.size + 1 + 1) gb k from by have h1 := hk2.1; have h2 := hk2.2.2.1; refine ⟨h1, ?_, ?_, ?_⟩ <;> omega)) hBX)
  have HL := Lib.hid hl
  have HC := Lib.hid hc
  have HR := Lib.hid hr
  clear hl hc hr hb0 hle hk hR hlt hH hBX hz
  have eg := EC.out
  clear hfC
  go_enter Tryd.func18, Tryd.ntmps18
  go_wp2_with (first
    | (go_at_fn 28
       refine (chooseC l HL.out A c HC.out w0 HR.out (W.heap.size + 1) W.heap.size (W.heap.size + 1 + 1) gb (l.length + 1) [] best (.slice none 0 0) vb _ (by rw [leftN_nil]; omega) (by have := HL.out; simp; omega) rfl HIX.out (Kd.R_nil _ _ _ _ _) HRb.out).mono ?_
       rintro e w' ⟨rfl, vb', hI, hB, hG⟩
       have I4 := Lib.hid hI
       have B4 := Lib.hid hB
       clear hI hB hG))
  (try simp only [Exit.inBlock, Exit.then])
  refine bodyPost_end (results_none rfl _ _ _) rfl ?_
  exact ⟨rfl, vb', I4.out.kb, Kd.R_mono B4.out (fun k hk => hk.1), I4.out.b⟩
def longR (l : List S44) : List Int × Int := if piecesB l = true then (longGo l (l.length + 1) [] [], 0) else ([], 1)
theorem small_of {l : List S44} (h : piecesB l = true) : l.length ≤ 8 := (pieces_small h).1
set_option maxHeartbeats 2000000 in
theorem implLongC (l : List S44) (A : Option Addr) (c : Nat) (w : World) (hG : Glob w) (hr : Kd.C k44 w A l.length l) (hc : l.length ≤ c) (r1 : List Int) (r2 : Int) (h : longR l = (r1, r2)) :
    Calls Tryd.prog 7 #[.slice A l.length c] w fun e w' => ∃ v0_ : Value, e = .returned (.tuple #[v0_, .int .i64 r2]) ∧ Kd.R (Kd.int .i64) 2 w' w.heap.size (fun _ => True) v0_ r1 ∧ Below w.heap.size w w' := by
  have HG := Lib.hid hG
  have HR := Lib.hid hr
  have HC := Lib.hid hc
  clear hG hr hc
  unfold longR at h
  cases hp : piecesB l with
  | false =>
    rw [hp, if_neg (by simp)] at h
    obtain ⟨rfl, rfl⟩ := Prod.mk.inj h
    have HP := Lib.hid (show impl_ValidPieces.f l = some false by unfold impl_ValidPieces.f; rw [hp])
    clear hp h
    go_enter Tryd.func7, Tryd.ntmps7
    go_wp2_with (first
      | (go_at_call 17
         with_reducible refine (impl_ValidPieces.calls A c l false _ HG.out HR.out HC.out HP.out).mono ?_
         rintro e w1 ⟨rfl, hb⟩
         have B1 := Lib.hid hb
         clear hb))
    go_ret2
    exact ⟨_, rfl, Kd.R_nil _ _ _ _ _, B1.out⟩
  | true =>
    rw [hp, if_pos rfl] at h
    obtain ⟨rfl, rfl⟩ := Prod.mk.inj h
    have HL := Lib.hid (small_of hp)
    have HP := Lib.hid (show impl_ValidPieces.f l = some true by unfold impl_ValidPieces.f; rw [hp])
    clear hp h
    go_enter Tryd.func7, Tryd.ntmps7
    go_wp2_with (first
      | (go_at_call 17
         with_reducible refine (impl_ValidPieces.calls A c l true _ HG.out HR.out HC.out HP.out).mono ?_
         rintro e w1 ⟨rfl, hb⟩
         have B1 := Lib.hid hb
         clear hb)
      | ((with_reducible refine gate_dst (N := 8) rfl ?_); refine Kd.R_lit (Kd.int .i64) _ 2 ?hg (N := 8) ?hd (xs := ([] : List Int)) (inner := []) (ok := fun _ => True) (okp := fun _ => True) ?hr ?hp (fun _ hk => hk) trivial (Below.refl _ _) (Nat.le_refl _) (by simp) ?_; (case hd => rfl); (case hg => rfl); (case hr => first | (go_simp; done) | (go_simp; rfl)); (case hp => exact (Reps.none _ _)); intro v0 w7 ho8 hb hg_ hnew_; clear hg_ hnew_
         obtain ⟨B0, d0, ev⟩ := Kd.R_slice ho8
         have ev2 : v0 = .slice B0 0 d0 := ev
         clear ev
         subst ev2
         have B7 := Lib.hid (below_step B1.out hb)
         have B8 := Lib.hid (below_step B7.out (below_alloc (Below.refl w7.heap.size w7) (.cells #[.slice B0 0 d0] 24)))
         have K8 := Lib.hid (heap_alloc_new w7 (.cells #[.slice B0 0 d0] 24))
         have R8 := Lib.hid (Kd.R_below (Kd.R_lower (Kd.R_mono (Kd.R_bound ho8) (fun k hk => show k ≠ w7.heap.size from Nat.ne_of_lt hk.2.2.1)) (show w.heap.size ≤ w1.heap.size from B1.out.size)) (below_alloc (Below.refl w7.heap.size w7) (.cells #[.slice B0 0 d0] 24)))
         clear ho8 hb)
      | (go_at_call 18
         with_reducible refine (rowsC l HL.out A c HC.out w HR.out w7.heap.size (.slice B0 0 d0) [] _ B8.out B7.out.size K8.out R8.out).mono ?_
         rintro e w9 ⟨rfl, vb, hk, hR, hb⟩
         obtain ⟨B9, d9, rfl⟩ := Kd.R_slice hR
         have g9 : w9.cell? ⟨w7.heap.size, 0, none⟩ = some (.slice B9 (longGo l (l.length + 1) [] []).length d9) := (blk_cell hk 0).trans rfl
         have B9 := Lib.hid hb
         have R9 := Lib.hid hR
         clear hk hR hb))
    go_ret2
    exact ⟨_, rfl, Kd.R_mono R9.out (fun _ _ => trivial), B9.out⟩
end Go.Proofs.YtfgifjdapojheaaDoor.Q
