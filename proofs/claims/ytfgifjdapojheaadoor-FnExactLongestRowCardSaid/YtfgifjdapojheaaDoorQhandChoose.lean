/- impl.rows: the search that calls itself; by hand. -/
import Derived.Test.YtfgifjdapojheaaDoorQhandRows
namespace Go.Proofs.YtfgifjdapojheaaDoor.Q
open Go.RowKit Go.Proofs.YtfgifjdapojheaaDoorW.PrintWords Go.Proofs.YtfgifjdapojheaaDoorW.PrintLast Go.Proofs.YtfgifjdapojheaaDoorW.PrintMore
open Go.Proofs.YtfgifjdapojheaaDoor.Pure
set_option linter.unusedVariables false
set_option linter.unusedSimpArgs false

/-- What the search finds in its boxes: the list, the function that keeps the best row, itself, and the best row so far. -/
structure CH (A : Option Addr) (c n gE gL gC gb : Nat) (vb : Value) (w0 W : World) : Prop where
  ne : gb ≠ gE ∧ gb ≠ gL ∧ gb ≠ gC
  le : w0.heap.size ≤ gb
  kE : W.heap[gE]? = some (.cells #[.func (.func 19) #[] #[.pointer (some ⟨gb, 0, none⟩)]] 47 (0, 0))
  kL : W.heap[gL]? = some (.cells #[.slice A n c] 27 (0, 0))
  kC : W.heap[gC]? = some (.cells #[.func (.func 28) #[] #[.pointer (some ⟨gE, 0, none⟩), .pointer (some ⟨gL, 0, none⟩), .pointer (some ⟨gC, 0, none⟩)]] 47 (0, 0))
  kb : W.heap[gb]? = some (.cells #[vb] 24 (0, 0))
  b : Below w0.heap.size w0 W
/-- Rows lie in none of the boxes. -/
def okR (gE gL gC gb k : Nat) : Prop := k ≠ gb ∧ k ≠ gE ∧ k ≠ gL ∧ k ≠ gC
section
variable {A : Option Addr} {c n gE gL gC gb : Nat} {vb : Value} {w0 W W' X Y : World}
theorem CH.step (h : CH A c n gE gL gC gb vb w0 W) (hb : Below W.heap.size W W') : CH A c n gE gL gC gb vb w0 W' :=
  ⟨h.ne, h.le, (hb.block _ (blk_lt h.kE)).trans h.kE, (hb.block _ (blk_lt h.kL)).trans h.kL, (hb.block _ (blk_lt h.kC)).trans h.kC, (hb.block _ (blk_lt h.kb)).trans h.kb, below_step h.b hb⟩
theorem CH.put (h : CH A c n gE gL gC gb vb w0 W) (v : Value) : CH A c n gE gL gC gb v w0 (W.setCell ⟨gb, 0, none⟩ v) :=
  ⟨h.ne, h.le, blk_far (p := ⟨gb, 0, none⟩) h.kE (fun e => h.ne.1 e.symm) v, blk_far (p := ⟨gb, 0, none⟩) h.kL (fun e => h.ne.2.1 e.symm) v, blk_far (p := ⟨gb, 0, none⟩) h.kC (fun e => h.ne.2.2 e.symm) v, blk_put h.kb 0 v rfl, below_set h.b h.le⟩
theorem CH.gs (h : CH A c n gE gL gC gb vb w0 W) : gb < W.heap.size ∧ gE < W.heap.size ∧ gL < W.heap.size ∧ gC < W.heap.size := ⟨blk_lt h.kb, blk_lt h.kE, blk_lt h.kL, blk_lt h.kC⟩
theorem grown_below {g : Nat} (h : W.grownBy X (some g)) (hb : Below X.heap.size X Y) : W.grownBy Y (some g) :=
  ⟨hb.os.trans h.os, hb.tape.trans h.tape, hb.output.trans h.output, Nat.le_trans h.size hb.size, fun k hk hne => (hb.block k (Nat.lt_of_lt_of_le hk h.size)).trans (h.block k hk hne)⟩
theorem grown_trans {g : Nat} (h : W.grownBy X (some g)) (hb : X.grownBy Y (some g)) : W.grownBy Y (some g) :=
  ⟨hb.os.trans h.os, hb.tape.trans h.tape, hb.output.trans h.output, Nat.le_trans h.size hb.size, fun k hk hne => (hb.block k (Nat.lt_of_lt_of_le hk h.size) hne).trans (h.block k hk hne)⟩
theorem grown_of {g : Nat} (hb : Below W.heap.size W X) : W.grownBy X (some g) := ⟨hb.os, hb.tape, hb.output, hb.size, fun k hk _ => hb.block k hk⟩
theorem below_of_grown {B g : Nat} (h : W.grownBy X (some g)) (hg : B ≤ g) (hs : B ≤ W.heap.size) : Below B W X := ⟨h.os, h.tape, h.output, h.size, fun i hi => h.block i (by omega) (fun he => by injection he with he; omega)⟩
theorem grown_put {g : Nat} {v : Value} : W.grownBy (W.setCell ⟨g, 0, none⟩ v) (some g) :=
  ⟨rfl, rfl, rfl, by simp, fun k _ hne => Below.heap_setCell W ⟨g, 0, none⟩ v k (fun e => hne (congrArg some e))⟩
theorem row_grown {base : Nat} {v : Value} {xs : List Int} (h : Kd.R (Kd.int .i64) 2 X base (okR gE gL gC gb) v xs) (hg : X.grownBy Y (some gb)) : Kd.R (Kd.int .i64) 2 Y base (okR gE gL gC gb) v xs :=
  Kd.R_step h (fun k hok hlt => hg.block k hlt (fun e => hok.1 (Option.some.inj e)))
theorem row_put {base : Nat} {v u : Value} {xs : List Int} (h : Kd.R (Kd.int .i64) 2 X base (okR gE gL gC gb) v xs) : Kd.R (Kd.int .i64) 2 (X.setCell ⟨gb, 0, none⟩ u) base (okR gE gL gC gb) v xs :=
  Kd.R_far h (p := ⟨gb, 0, none⟩) (fun k hk => hk.1) u
theorem grown_append {o : Option Nat} (h : X.grownBy Y o) (B : Nat) (hB : B ≤ X.heap.size) (ho : ∀ k, o = some k → B ≤ k) : Below B X Y := ⟨h.os, h.tape, h.output, h.size, fun i hi => h.block i (by omega) (fun he => by have := ho i he.symm; omega)⟩
end

set_option maxHeartbeats 8000000 in
set_option maxRecDepth 100000 in
theorem chooseC (l : List S44) (hl : l.length ≤ 8) (A : Option Addr) (c : Nat) (hc : l.length ≤ c) (w0 : World) (hr : Kd.C k44 w0 A l.length l) (gE gL gC gb : Nat) : ∀ (d : Nat) (row best : List Int) (vr vb : Value) (W : World), leftN l.length row < d → row.length + d ≤ 9 → row.all (numB l) = true →
    CH A c l.length gE gL gC gb vb w0 W → Kd.R (Kd.int .i64) 2 W w0.heap.size (okR gE gL gC gb) vr row → Kd.R (Kd.int .i64) 2 W w0.heap.size (okR gE gL gC gb) vb best →
    Calls Tryd.prog 28 #[vr, .pointer (some ⟨gE, 0, none⟩), .pointer (some ⟨gL, 0, none⟩), .pointer (some ⟨gC, 0, none⟩)] W fun e w' => e = .returned (.tuple #[]) ∧ ∃ vb', CH A c l.length gE gL gC gb vb' w0 w' ∧ Kd.R (Kd.int .i64) 2 w' w0.heap.size (okR gE gL gC gb) vb' (longGo l d row best) ∧ W.grownBy w' (some gb) := by
  have EG := Lib.hid (show ∀ args w, (callFunc 19 args).run Tryd.prog w = .ok (.enter 19 args) w from enters_of Tryd.func19 (by kernel_rfl) rfl)
  have EC := Lib.hid (show ∀ args w, (callFunc 28 args).run Tryd.prog w = .ok (.enter 28 args) w from enters_of Tryd.func28 (by kernel_rfl) rfl)
  have HL := Lib.hid hl
  have HC := Lib.hid hc
  have HR := Lib.hid hr
  clear hl hc hr
  intro d
  induction d with
  | zero =>
    intro row best vr vb W h
    exact absurd h (Nat.not_lt_zero _)
  | succ d ih =>
  intro row best vr vb W hlt hlen hall hI hRr hRb
  obtain ⟨Ar, cr, rfl⟩ := Kd.R_slice hRr
  obtain ⟨Bb, cb, rfl⟩ := Kd.R_slice hRb
  have IH := Lib.hid ih
  have HLT := Lib.hid hlt
  have HLEN := Lib.hid hlen
  have HALL := Lib.hid hall
  have HI := Lib.hid hI
  have HRr := Lib.hid hRr
  have HRb := Lib.hid hRb
  have eE : W.cell? ⟨gE, 0, none⟩ = some (.func (.func 19) #[] #[.pointer (some ⟨gb, 0, none⟩)]) := (blk_cell hI.kE 0).trans rfl
  have eL : W.cell? ⟨gL, 0, none⟩ = some (.slice A l.length c) := (blk_cell hI.kL 0).trans rfl
  clear ih hlt hlen hall hI hRr hRb
  by_cases h0 : 0 < row.length
  · have h02 : decide ((row.length : Int) > 0) = true := decide_eq_true (by omega)
    have h03 : (0 : Int) < (row.length : Int) := by omega
    by_cases hbt : best.length < row.length
    · have UP := Lib.hid (show ups row best = row from if_pos hbt)
      have IX := Lib.hid (HI.out.put (.slice Ar row.length cr))
      have RX := Lib.hid (row_put (u := .slice Ar row.length cr) HRr.out)
      have BX := Lib.hid (show Kd.R (Kd.int .i64) 2 (W.setCell ⟨gb, 0, none⟩ (.slice Ar row.length cr)) w0.heap.size (okR gE gL gC gb) (.slice Ar row.length cr) (longAt l d row best 0) from by
        have e : longAt l d row best 0 = row := UP.out
        rw [e]
        exact RX.out)
      have GX := Lib.hid (grown_put (W := W) (g := gb) (v := .slice Ar row.length cr))
      have HEACH := Lib.hid (eachC gb Ar Bb row.length cr best.length cb W HI.out.kb)
      have eL2 : (W.setCell ⟨gb, 0, none⟩ (.slice Ar row.length cr)).cell? ⟨gL, 0, none⟩ = some (.slice A l.length c) := (blk_cell IX.out.kL 0).trans rfl
      have eg := EG.out
      go_enter Tryd.func28, Tryd.ntmps28
      go_wp2_with (first
        | (go_at_fn 19
           refine HEACH.out.mono ?_
           rintro e w' ⟨rfl, hw⟩
           rw [if_pos hbt] at hw
           subst w')
        | (go_at_call 29
           with_reducible refine (impl_size_impl_Piece.calls A c l (l.length : Int) _ (Kd.C_below HR.out IX.out.b) HC.out rfl).mono ?_
           rintro e w' ⟨rfl, ⟨nd, rfl⟩⟩
           have IL := Lib.hid (IX.out.step (pw_below_drewN (Below.refl _ _) nd))
           have RL := Lib.hid (Kd.R_below RX.out (pw_below_drewN (Below.refl _ _) nd))
           have BL := Lib.hid (Kd.R_below BX.out (pw_below_drewN (Below.refl _ _) nd))
           have GL := Lib.hid (grown_below GX.out (pw_below_drewN (Below.refl _ _) nd))
           clear eE eL))
      go_loopw [5, 14] (fun v5 i wr => ∃ (j : Nat) (vj : Value), j ≤ l.length ∧ i = .int .i64 j ∧ RowKit.Hid (CH A c l.length gE gL gC gb vj w0 wr) ∧ RowKit.Hid (Kd.R (Kd.int .i64) 2 wr w0.heap.size (okR gE gL gC gb) (.slice Ar row.length cr) row) ∧ RowKit.Hid (Kd.R (Kd.int .i64) 2 wr w0.heap.size (okR gE gL gC gb) vj (longAt l d row best j)) ∧ RowKit.Hid (W.grownBy wr (some gb))) (fun _ i _ => l.length - (intOf i).toNat)
      case atStart => exact ⟨0, _, Nat.zero_le _, rfl, IL, RL, BL, GL⟩
      case round =>
        clear IL RL BL GL IX RX BX GX
        have hbl : (l.length : Int) ≤ 1048576 := by have := HL.out; omega
        obtain ⟨j, vj, hj, rfl, IV, RV, BV, GV⟩ := hrel
        have eL : wr.cell? ⟨gL, 0, none⟩ = some (.slice A l.length c) := (blk_cell IV.out.kL 0).trans rfl
        by_cases hjl : j < l.length
        · have hjl2 : (j : Int) < (l.length : Int) := by omega
          have HN := Lib.hid (numB_iff.2 ⟨by omega, hjl2⟩ : numB l (j : Int) = true)
          have HV := Lib.hid (fun (b : Bool) (hb : goesB l row (j : Int) = b) => (impl_goesOn.val l row (j : Int) HALL.out HN.out (by have := HLEN.out; omega)).trans (congrArg some hb))
          cases hg : goesB l row (j : Int) with
          | false =>
            have HQ := Lib.hid (HV.out false hg)
            have ES := Lib.hid (show longAt l d row best (j + 1) = longAt l d row best j by rw [longAt_step, hg]; rfl)
            clear hg
            go_wp2_with (first
              | (go_at_call 30
                 with_reducible refine (impl_goesOn.calls (row.length + 1) A c l Ar cr row (j : Int) false _ (Kd.C_below HR.out IV.out.b) HC.out (Kd.R_reads' RV.out).2.2 (Kd.R_reads' RV.out).2.1 HQ.out).mono ?_
                 rintro e wg ⟨rfl, hb⟩))
            go_roundw
            case measure => simp only [intOf]; omega
            case rel => exact ⟨j + 1, _, by omega, by go_num, Lib.hid (IV.out.step hb), Lib.hid (Kd.R_below RV.out hb), Lib.hid (by rw [ES.out]; exact Kd.R_below BV.out hb), Lib.hid (grown_below GV.out hb)⟩
          | true =>
            have HQ := Lib.hid (HV.out true hg)
            have ES := Lib.hid (show longAt l d row best (j + 1) = longGo l d (row ++ [(j : Int)]) (longAt l d row best j) by rw [longAt_step, hg]; rfl)
            have HLT2 := Lib.hid (show leftN l.length (row ++ [(j : Int)]) < d by have h1 := leftN_less hjl (goesB_has hg); have h2 := HLT.out; omega)
            have HLEN2 := Lib.hid (show (row ++ [(j : Int)]).length + d ≤ 9 by have := HLEN.out; rw [List.length_append, List.length_singleton]; omega)
            have HALL2 := Lib.hid (row_all hjl HALL.out)
            clear hg
            go_wp2_with (first
              | (go_at_call 30
                 with_reducible refine (impl_goesOn.calls (row.length + 1) A c l Ar cr row (j : Int) true _ (Kd.C_below HR.out IV.out.b) HC.out (Kd.R_reads' RV.out).2.2 (Kd.R_reads' RV.out).2.1 HQ.out).mono ?_
                 rintro e wg ⟨rfl, hb⟩
                 have IG := Lib.hid (IV.out.step hb)
                 have RG := Lib.hid (Kd.R_below RV.out hb)
                 have BG := Lib.hid (Kd.R_below BV.out hb)
                 have GG := Lib.hid (grown_below GV.out hb)
                 clear hb IV RV BV GV eL))
            refine start_ (n := 7) (S := fun w' => Below wg.drew.heap.size wg.drew w') (ds := [6]) #[false, false, false, false, false, false, false] (by kernel_rfl) rfl rfl (Below.refl _ _) (fun hHeld => ?_)
            have IQ0 := Lib.hid (IG.out.step (below_drew1 (Below.refl wg.heap.size wg)))
            have RQ0 := Lib.hid (Kd.R_below RG.out (below_drew1 (Below.refl wg.heap.size wg)))
            have BQ0 := Lib.hid (Kd.R_below BG.out (below_drew1 (Below.refl wg.heap.size wg)))
            have GQ0 := Lib.hid (grown_below GG.out (below_drew1 (Below.refl wg.heap.size wg)))
            clear IG RG BG GG
            generalize wg.drew = wq at IQ0 RQ0 BQ0 GQ0 hHeld ⊢
            have IQ := IQ0
            have RQ := RQ0
            refine take_ (i := 0) (N := some 21) (v := ?_) (a' := ?_) #[true, false, false, false, false, false, false] rfl rfl (by kernel_rfl) (fun _ _ _ h => h) (Or.inl ⟨by rfl, ?_⟩) hHeld ?_ ?_
            rotate_left
            · rintro w' s
              have q : w'.cell? ⟨gC, 0, none⟩ = some (.func (.func 28) #[] #[.pointer (some ⟨gE, 0, none⟩), .pointer (some ⟨gL, 0, none⟩), .pointer (some ⟨gC, 0, none⟩)]) := (blk_cell ((s.block _ (blk_lt IQ0.out.kC)).trans IQ0.out.kC) 0).trans rfl
              go_simp
              with_reducible rfl
            rotate_left
            · simp only [Act.put, List.setIfInBounds_toArray, List.set_cons_zero, List.set_cons_succ, i64_w, i32_w]
              rfl
            refine pure_ (i := 1) (N := some 22) (v := ?_) (a' := ?_) #[true, true, false, false, false, false, false] rfl rfl (by kernel_rfl) (fun _ _ _ h => h) (Or.inl ⟨by rfl, ?_⟩) ?_ ?_
            rotate_left
            · intro w'
              go_simp
              with_reducible rfl
            rotate_left
            · simp only [Act.put, List.setIfInBounds_toArray, List.set_cons_zero, List.set_cons_succ, i64_w, i32_w]
              rfl
            refine pure_ (i := 3) (N := some 24) (v := ?_) (a' := ?_) #[true, true, false, true, false, false, false] rfl rfl (by kernel_rfl) (fun _ _ _ h => h) (Or.inl ⟨by rfl, ?_⟩) ?_ ?_
            rotate_left
            · intro w'
              go_simp
              with_reducible rfl
            rotate_left
            · simp only [Act.put, List.setIfInBounds_toArray, List.set_cons_zero, List.set_cons_succ, i64_w, i32_w]
              rfl
            refine two_ (i := 2) (j := 4) (Ni := some 23) (Nj := some 25) #[true, true, true, true, false, false, false] #[true, true, false, true, true, false, false] rfl rfl rfl rfl (by kernel_rfl) (by decide) (by decide) (fun K hK => ?_) (fun K hK => ?_)
            · skip
              refine goes_ Tryd.func31 (by kernel_rfl) rfl #[.slice Ar row.length cr] (by rfl) rfl rfl (by (try simp only [List.map_toArray, List.map_cons, List.map_nil]); first | done | rfl) ?_
              with_reducible refine (cloneC Ar cr row _ (Kd.R_reads' RQ.out).2.2 (Kd.R_reads' RQ.out).2.1 (by have := HLEN.out; omega)).mono ?_
              rintro e u1 ⟨vC, rfl, hR, hb⟩
              refine ⟨_, rfl, ?_⟩
              have IQ := Lib.hid (IQ.out.step hb)
              have RQ := Lib.hid (Kd.R_below RQ.out hb)
              have RC := Lib.hid (Kd.R_lower (Kd.R_mono (Kd.R_bound hR) (fun k hk => show wq.heap.size ≤ k from Nat.le_trans hHeld.size hk.2.1)) (show w0.heap.size ≤ wq.heap.size by have h1 := hHeld.size; have h2 := IQ0.out.b.size; omega))
              clear hR
              have hS_ := below_step hHeld hb
              clear hb hHeld
              refine hK.out _ _ hS_ (fun hHeld => ?_)
              clear hK K hS_
              refine norm_ (a' := ?_) ?_ ?_
              rotate_left
              · show Act.put _ (some 23) _ = _
                simp only [Act.put, List.setIfInBounds_toArray, List.set_cons_zero, List.set_cons_succ, i64_w, i32_w]
                rfl
              refine one_ (i := 4) (N := some 25) #[true, true, true, true, true, false, false] rfl rfl (by kernel_rfl) (by decide) (fun K hK => ?_)
              refine Kd.R_lit_step (Kd.int .i64) _ 2 ?hgu2 (N := 25) ?hdu21 (xs := [(j : Int)]) (inner := [.int .i64 j]) (ok := fun _ => True) (okp := fun _ => True) ?hru2 ?hpu2 (fun _ hk => hk) trivial (Below.refl _ _) (Nat.le_refl _) (by simp) ?_
              (case hdu21 => rfl)
              (case hgu2 => rfl)
              (case hru2 => first | (go_simp; done) | (go_simp; rfl))
              (case hpu2 => exact (Reps.one (show Kd.M (Kd.int .i64) _ _ _ (j : Int) [.int .i64 j] from rfl) (Reps.none _ _)))
              intro vL u2 ho hb hg_ hnew_
              clear hg_ hnew_
              have IQ := Lib.hid (IQ.out.step hb)
              have RQ := Lib.hid (Kd.R_below RQ.out hb)
              have RC := Lib.hid (Kd.R_below RC.out hb)
              have RLt := Lib.hid (Kd.R_lower (Kd.R_mono (Kd.R_bound ho) (fun k hk => show wq.heap.size ≤ k from Nat.le_trans hHeld.size hk.2.1)) (show w0.heap.size ≤ u1.heap.size by have h1 := hHeld.size; have h2 := IQ0.out.b.size; omega))
              clear ho
              have hS_ := below_step hHeld hb
              clear hb hHeld
              refine hK.out _ _ hS_ (fun hHeld => ?_)
              clear hK K hS_
              refine norm_ (a' := ?_) ?_ ?_
              rotate_left
              · show Act.put _ (some 25) _ = _
                simp only [Act.put, List.setIfInBounds_toArray, List.set_cons_zero, List.set_cons_succ, i64_w, i32_w]
                rfl
              obtain ⟨AL, cL, rfl⟩ := Kd.R_slice RLt.out
              refine one_ (i := 5) (N := some 26) #[true, true, true, true, true, true, false] rfl rfl (by kernel_rfl) (by decide) (fun K hK => ?_)
              refine Kd.R_append_rows_step (Kd.int .i64) (w0 := w0) w0.heap.size (by rfl) (.tmp 23) (.tmp 25) 24 2 (.int .i64 0) 8 rfl Tryd.underlying24 info2' rfl (by decide) (by omega) vC row [(j : Int)] _ _ _ (fun k => wq.heap.size ≤ k) (fun _ => False) rfl rfl ?aOa1 ?aRa1 (fun _ _ h => h) (fun _ h => h.elim) ?aFa1 ?aBa1 ?aSa1 ?aLa1 ?_
              (case aOa1 => exact RC.out)
              (case aRa1 => exact (Kd.R_reads' RLt.out).2.2)
              (case aFa1 => exact fun k hk => Nat.le_trans hHeld.size hk)
              (case aBa1 => exact IQ.out.b)
              (case aSa1 => exact IQ.out.b.size)
              (case aLa1 => have := HLEN.out; simp; omega)
              intro vA u3 ho hb hg hat
              have HS3 := Lib.hid (hHeld.trans (grown_append hg wq.heap.size hHeld.size (fun k hk => RC.out.1 k hk)))
              have I3 := Lib.hid (IQ0.out.step HS3.out)
              have R3 := Lib.hid (Kd.R_below RQ0.out HS3.out)
              have B3 := Lib.hid (Kd.R_below BQ0.out HS3.out)
              have A3 := Lib.hid (Kd.R_mono ho (fun k (hk : wq.heap.size ≤ k) => show okR gE gL gC gb k from by have h1 := IQ0.out.gs; refine ⟨?_, ?_, ?_, ?_⟩ <;> omega))
              clear ho hb hg hat hHeld
              refine hK.out _ _ HS3.out (fun hHeld => ?_)
              clear hK K
              refine norm_ (a' := ?_) ?_ ?_
              rotate_left
              · show Act.put _ (some 26) _ = _
                simp only [Act.put, List.setIfInBounds_toArray, List.set_cons_zero, List.set_cons_succ, i64_w, i32_w]
                rfl
              refine last_ (i := 6) (N := some 27) #[true, true, true, true, true, true, true] rfl rfl (by kernel_rfl) (by decide) (fun K hK => ?_)
              refine call_ 28 #[vA, .pointer (some ⟨gE, 0, none⟩), .pointer (some ⟨gL, 0, none⟩), .pointer (some ⟨gC, 0, none⟩)] (by rfl) rfl ?hruna1 ?_
              case hruna1 =>
                have he := EC.out
                unfold execOp
                simp [resolve, Deferred.ofValue, invoke, Act.eval, he]
              with_reducible refine (IH.out (row ++ [(j : Int)]) (longAt l d row best j) vA vj _ HLT2.out HLEN2.out HALL2.out I3.out A3.out B3.out).mono ?_
              rintro e u4 ⟨rfl, vb', hI4, hB4, hG4⟩
              refine ⟨_, rfl, ?_⟩
              have R4 := Lib.hid (row_grown R3.out hG4)
              have G4 := Lib.hid (grown_trans (grown_below GQ0.out HS3.out) hG4)
              refine hK.out _ _ ?_
              clear hK K
              refine norm_ (a' := ?_) ?_ ?_
              rotate_left
              · show Act.put _ (some 27) _ = _
                simp only [Act.put, List.setIfInBounds_toArray, List.set_cons_zero, List.set_cons_succ, i64_w, i32_w]
                rfl
              refine done_ (by kernel_rfl) ?_
              go_wp2
              go_roundw
              case measure => simp only [intOf]; omega
              case rel => exact ⟨j + 1, vb', by omega, by go_num, Lib.hid hI4, R4, Lib.hid (by rw [ES.out]; exact hB4), Lib.hid G4.out⟩
            · skip
              refine Kd.R_lit_step (Kd.int .i64) _ 2 ?hgu1 (N := 25) ?hdu1 (xs := [(j : Int)]) (inner := [.int .i64 j]) (ok := fun _ => True) (okp := fun _ => True) ?hru1 ?hpu1 (fun _ hk => hk) trivial (Below.refl _ _) (Nat.le_refl _) (by simp) ?_
              (case hdu1 => rfl)
              (case hgu1 => rfl)
              (case hru1 => first | (go_simp; done) | (go_simp; rfl))
              (case hpu1 => exact (Reps.one (show Kd.M (Kd.int .i64) _ _ _ (j : Int) [.int .i64 j] from rfl) (Reps.none _ _)))
              intro vL u1 ho hb hg_ hnew_
              clear hg_ hnew_
              have IQ := Lib.hid (IQ.out.step hb)
              have RQ := Lib.hid (Kd.R_below RQ.out hb)
              have RLt := Lib.hid (Kd.R_lower (Kd.R_mono (Kd.R_bound ho) (fun k hk => show wq.heap.size ≤ k from Nat.le_trans hHeld.size hk.2.1)) (show w0.heap.size ≤ wq.heap.size by have h1 := hHeld.size; have h2 := IQ0.out.b.size; omega))
              clear ho
              have hS_ := below_step hHeld hb
              clear hb hHeld
              refine hK.out _ _ hS_ (fun hHeld => ?_)
              clear hK K hS_
              refine norm_ (a' := ?_) ?_ ?_
              rotate_left
              · show Act.put _ (some 25) _ = _
                simp only [Act.put, List.setIfInBounds_toArray, List.set_cons_zero, List.set_cons_succ, i64_w, i32_w]
                rfl
              refine one_ (i := 2) (N := some 23) #[true, true, true, true, true, false, false] rfl rfl (by kernel_rfl) (by decide) (fun K hK => ?_)
              refine goes_ Tryd.func31 (by kernel_rfl) rfl #[.slice Ar row.length cr] (by rfl) rfl rfl (by (try simp only [List.map_toArray, List.map_cons, List.map_nil]); first | done | rfl) ?_
              with_reducible refine (cloneC Ar cr row _ (Kd.R_reads' RQ.out).2.2 (Kd.R_reads' RQ.out).2.1 (by have := HLEN.out; omega)).mono ?_
              rintro e u2 ⟨vC, rfl, hR, hb⟩
              refine ⟨_, rfl, ?_⟩
              have IQ := Lib.hid (IQ.out.step hb)
              have RQ := Lib.hid (Kd.R_below RQ.out hb)
              have RLt := Lib.hid (Kd.R_below RLt.out hb)
              have RC := Lib.hid (Kd.R_lower (Kd.R_mono (Kd.R_bound hR) (fun k hk => show wq.heap.size ≤ k from Nat.le_trans hHeld.size hk.2.1)) (show w0.heap.size ≤ u1.heap.size by have h1 := hHeld.size; have h2 := IQ0.out.b.size; omega))
              clear hR
              have hS_ := below_step hHeld hb
              clear hb hHeld
              refine hK.out _ _ hS_ (fun hHeld => ?_)
              clear hK K hS_
              refine norm_ (a' := ?_) ?_ ?_
              rotate_left
              · show Act.put _ (some 23) _ = _
                simp only [Act.put, List.setIfInBounds_toArray, List.set_cons_zero, List.set_cons_succ, i64_w, i32_w]
                rfl
              obtain ⟨AL, cL, rfl⟩ := Kd.R_slice RLt.out
              refine one_ (i := 5) (N := some 26) #[true, true, true, true, true, true, false] rfl rfl (by kernel_rfl) (by decide) (fun K hK => ?_)
              refine Kd.R_append_rows_step (Kd.int .i64) (w0 := w0) w0.heap.size (by rfl) (.tmp 23) (.tmp 25) 24 2 (.int .i64 0) 8 rfl Tryd.underlying24 info2' rfl (by decide) (by omega) vC row [(j : Int)] _ _ _ (fun k => wq.heap.size ≤ k) (fun _ => False) rfl rfl ?aOb1 ?aRb1 (fun _ _ h => h) (fun _ h => h.elim) ?aFb1 ?aBb1 ?aSb1 ?aLb1 ?_
              (case aOb1 => exact RC.out)
              (case aRb1 => exact (Kd.R_reads' RLt.out).2.2)
              (case aFb1 => exact fun k hk => Nat.le_trans hHeld.size hk)
              (case aBb1 => exact IQ.out.b)
              (case aSb1 => exact IQ.out.b.size)
              (case aLb1 => have := HLEN.out; simp; omega)
              intro vA u3 ho hb hg hat
              have HS3 := Lib.hid (hHeld.trans (grown_append hg wq.heap.size hHeld.size (fun k hk => RC.out.1 k hk)))
              have I3 := Lib.hid (IQ0.out.step HS3.out)
              have R3 := Lib.hid (Kd.R_below RQ0.out HS3.out)
              have B3 := Lib.hid (Kd.R_below BQ0.out HS3.out)
              have A3 := Lib.hid (Kd.R_mono ho (fun k (hk : wq.heap.size ≤ k) => show okR gE gL gC gb k from by have h1 := IQ0.out.gs; refine ⟨?_, ?_, ?_, ?_⟩ <;> omega))
              clear ho hb hg hat hHeld
              refine hK.out _ _ HS3.out (fun hHeld => ?_)
              clear hK K
              refine norm_ (a' := ?_) ?_ ?_
              rotate_left
              · show Act.put _ (some 26) _ = _
                simp only [Act.put, List.setIfInBounds_toArray, List.set_cons_zero, List.set_cons_succ, i64_w, i32_w]
                rfl
              refine last_ (i := 6) (N := some 27) #[true, true, true, true, true, true, true] rfl rfl (by kernel_rfl) (by decide) (fun K hK => ?_)
              refine call_ 28 #[vA, .pointer (some ⟨gE, 0, none⟩), .pointer (some ⟨gL, 0, none⟩), .pointer (some ⟨gC, 0, none⟩)] (by rfl) rfl ?hrunb1 ?_
              case hrunb1 =>
                have he := EC.out
                unfold execOp
                simp [resolve, Deferred.ofValue, invoke, Act.eval, he]
              with_reducible refine (IH.out (row ++ [(j : Int)]) (longAt l d row best j) vA vj _ HLT2.out HLEN2.out HALL2.out I3.out A3.out B3.out).mono ?_
              rintro e u4 ⟨rfl, vb', hI4, hB4, hG4⟩
              refine ⟨_, rfl, ?_⟩
              have R4 := Lib.hid (row_grown R3.out hG4)
              have G4 := Lib.hid (grown_trans (grown_below GQ0.out HS3.out) hG4)
              refine hK.out _ _ ?_
              clear hK K
              refine norm_ (a' := ?_) ?_ ?_
              rotate_left
              · show Act.put _ (some 27) _ = _
                simp only [Act.put, List.setIfInBounds_toArray, List.set_cons_zero, List.set_cons_succ, i64_w, i32_w]
                rfl
              refine done_ (by kernel_rfl) ?_
              go_wp2
              go_roundw
              case measure => simp only [intOf]; omega
              case rel => exact ⟨j + 1, vb', by omega, by go_num, Lib.hid hI4, R4, Lib.hid (by rw [ES.out]; exact hB4), Lib.hid G4.out⟩
        · have hjl2 : ¬ (j : Int) < (l.length : Int) := by omega
          obtain rfl : j = l.length := by omega
          go_wp2
          (try simp only [Exit.inBlock, Exit.then])
          refine bodyPost_end (results_none rfl _ _ _) rfl ?_
          exact ⟨rfl, vj, IV.out, BV.out, GV.out⟩
    · have UP := Lib.hid (show ups row best = best from if_neg hbt)
      have IX := HI
      have RX := HRr
      have BX := Lib.hid (show Kd.R (Kd.int .i64) 2 W w0.heap.size (okR gE gL gC gb) (.slice Bb best.length cb) (longAt l d row best 0) from by
        have e : longAt l d row best 0 = best := UP.out
        rw [e]
        exact HRb.out)
      have GX := Lib.hid (World.grownBy.refl W (some gb))
      have HEACH := Lib.hid (eachC gb Ar Bb row.length cr best.length cb W HI.out.kb)
      have eg := EG.out
      go_enter Tryd.func28, Tryd.ntmps28
      go_wp2_with (first
        | (go_at_fn 19
           refine HEACH.out.mono ?_
           rintro e w' ⟨rfl, hw⟩
           rw [if_neg hbt] at hw
           subst w')
        | (go_at_call 29
           with_reducible refine (impl_size_impl_Piece.calls A c l (l.length : Int) _ (Kd.C_below HR.out IX.out.b) HC.out rfl).mono ?_
           rintro e w' ⟨rfl, ⟨nd, rfl⟩⟩
           have IL := Lib.hid (IX.out.step (pw_below_drewN (Below.refl _ _) nd))
           have RL := Lib.hid (Kd.R_below RX.out (pw_below_drewN (Below.refl _ _) nd))
           have BL := Lib.hid (Kd.R_below BX.out (pw_below_drewN (Below.refl _ _) nd))
           have GL := Lib.hid (grown_below GX.out (pw_below_drewN (Below.refl _ _) nd))
           clear eE eL))
      go_loopw [5, 14] (fun v5 i wr => ∃ (j : Nat) (vj : Value), j ≤ l.length ∧ i = .int .i64 j ∧ RowKit.Hid (CH A c l.length gE gL gC gb vj w0 wr) ∧ RowKit.Hid (Kd.R (Kd.int .i64) 2 wr w0.heap.size (okR gE gL gC gb) (.slice Ar row.length cr) row) ∧ RowKit.Hid (Kd.R (Kd.int .i64) 2 wr w0.heap.size (okR gE gL gC gb) vj (longAt l d row best j)) ∧ RowKit.Hid (W.grownBy wr (some gb))) (fun _ i _ => l.length - (intOf i).toNat)
      case atStart => exact ⟨0, _, Nat.zero_le _, rfl, IL, RL, BL, GL⟩
      case round =>
        clear IL RL BL GL IX RX BX GX
        have hbl : (l.length : Int) ≤ 1048576 := by have := HL.out; omega
        obtain ⟨j, vj, hj, rfl, IV, RV, BV, GV⟩ := hrel
        have eL : wr.cell? ⟨gL, 0, none⟩ = some (.slice A l.length c) := (blk_cell IV.out.kL 0).trans rfl
        by_cases hjl : j < l.length
        · have hjl2 : (j : Int) < (l.length : Int) := by omega
          have HN := Lib.hid (numB_iff.2 ⟨by omega, hjl2⟩ : numB l (j : Int) = true)
          have HV := Lib.hid (fun (b : Bool) (hb : goesB l row (j : Int) = b) => (impl_goesOn.val l row (j : Int) HALL.out HN.out (by have := HLEN.out; omega)).trans (congrArg some hb))
          cases hg : goesB l row (j : Int) with
          | false =>
            have HQ := Lib.hid (HV.out false hg)
            have ES := Lib.hid (show longAt l d row best (j + 1) = longAt l d row best j by rw [longAt_step, hg]; rfl)
            clear hg
            go_wp2_with (first
              | (go_at_call 30
                 with_reducible refine (impl_goesOn.calls (row.length + 1) A c l Ar cr row (j : Int) false _ (Kd.C_below HR.out IV.out.b) HC.out (Kd.R_reads' RV.out).2.2 (Kd.R_reads' RV.out).2.1 HQ.out).mono ?_
                 rintro e wg ⟨rfl, hb⟩))
            go_roundw
            case measure => simp only [intOf]; omega
            case rel => exact ⟨j + 1, _, by omega, by go_num, Lib.hid (IV.out.step hb), Lib.hid (Kd.R_below RV.out hb), Lib.hid (by rw [ES.out]; exact Kd.R_below BV.out hb), Lib.hid (grown_below GV.out hb)⟩
          | true =>
            have HQ := Lib.hid (HV.out true hg)
            have ES := Lib.hid (show longAt l d row best (j + 1) = longGo l d (row ++ [(j : Int)]) (longAt l d row best j) by rw [longAt_step, hg]; rfl)
            have HLT2 := Lib.hid (show leftN l.length (row ++ [(j : Int)]) < d by have h1 := leftN_less hjl (goesB_has hg); have h2 := HLT.out; omega)
            have HLEN2 := Lib.hid (show (row ++ [(j : Int)]).length + d ≤ 9 by have := HLEN.out; rw [List.length_append, List.length_singleton]; omega)
            have HALL2 := Lib.hid (row_all hjl HALL.out)
            clear hg
            go_wp2_with (first
              | (go_at_call 30
                 with_reducible refine (impl_goesOn.calls (row.length + 1) A c l Ar cr row (j : Int) true _ (Kd.C_below HR.out IV.out.b) HC.out (Kd.R_reads' RV.out).2.2 (Kd.R_reads' RV.out).2.1 HQ.out).mono ?_
                 rintro e wg ⟨rfl, hb⟩
                 have IG := Lib.hid (IV.out.step hb)
                 have RG := Lib.hid (Kd.R_below RV.out hb)
                 have BG := Lib.hid (Kd.R_below BV.out hb)
                 have GG := Lib.hid (grown_below GV.out hb)
                 clear hb IV RV BV GV eL))
            refine start_ (n := 7) (S := fun w' => Below wg.drew.heap.size wg.drew w') (ds := [6]) #[false, false, false, false, false, false, false] (by kernel_rfl) rfl rfl (Below.refl _ _) (fun hHeld => ?_)
            have IQ0 := Lib.hid (IG.out.step (below_drew1 (Below.refl wg.heap.size wg)))
            have RQ0 := Lib.hid (Kd.R_below RG.out (below_drew1 (Below.refl wg.heap.size wg)))
            have BQ0 := Lib.hid (Kd.R_below BG.out (below_drew1 (Below.refl wg.heap.size wg)))
            have GQ0 := Lib.hid (grown_below GG.out (below_drew1 (Below.refl wg.heap.size wg)))
            clear IG RG BG GG
            generalize wg.drew = wq at IQ0 RQ0 BQ0 GQ0 hHeld ⊢
            have IQ := IQ0
            have RQ := RQ0
            refine take_ (i := 0) (N := some 21) (v := ?_) (a' := ?_) #[true, false, false, false, false, false, false] rfl rfl (by kernel_rfl) (fun _ _ _ h => h) (Or.inl ⟨by rfl, ?_⟩) hHeld ?_ ?_
            rotate_left
            · rintro w' s
              have q : w'.cell? ⟨gC, 0, none⟩ = some (.func (.func 28) #[] #[.pointer (some ⟨gE, 0, none⟩), .pointer (some ⟨gL, 0, none⟩), .pointer (some ⟨gC, 0, none⟩)]) := (blk_cell ((s.block _ (blk_lt IQ0.out.kC)).trans IQ0.out.kC) 0).trans rfl
              go_simp
              with_reducible rfl
            rotate_left
            · simp only [Act.put, List.setIfInBounds_toArray, List.set_cons_zero, List.set_cons_succ, i64_w, i32_w]
              rfl
            refine pure_ (i := 1) (N := some 22) (v := ?_) (a' := ?_) #[true, true, false, false, false, false, false] rfl rfl (by kernel_rfl) (fun _ _ _ h => h) (Or.inl ⟨by rfl, ?_⟩) ?_ ?_
            rotate_left
            · intro w'
              go_simp
              with_reducible rfl
            rotate_left
            · simp only [Act.put, List.setIfInBounds_toArray, List.set_cons_zero, List.set_cons_succ, i64_w, i32_w]
              rfl
            refine pure_ (i := 3) (N := some 24) (v := ?_) (a' := ?_) #[true, true, false, true, false, false, false] rfl rfl (by kernel_rfl) (fun _ _ _ h => h) (Or.inl ⟨by rfl, ?_⟩) ?_ ?_
            rotate_left
            · intro w'
              go_simp
              with_reducible rfl
            rotate_left
            · simp only [Act.put, List.setIfInBounds_toArray, List.set_cons_zero, List.set_cons_succ, i64_w, i32_w]
              rfl
            refine two_ (i := 2) (j := 4) (Ni := some 23) (Nj := some 25) #[true, true, true, true, false, false, false] #[true, true, false, true, true, false, false] rfl rfl rfl rfl (by kernel_rfl) (by decide) (by decide) (fun K hK => ?_) (fun K hK => ?_)
            · skip
              refine goes_ Tryd.func31 (by kernel_rfl) rfl #[.slice Ar row.length cr] (by rfl) rfl rfl (by (try simp only [List.map_toArray, List.map_cons, List.map_nil]); first | done | rfl) ?_
              with_reducible refine (cloneC Ar cr row _ (Kd.R_reads' RQ.out).2.2 (Kd.R_reads' RQ.out).2.1 (by have := HLEN.out; omega)).mono ?_
              rintro e u1 ⟨vC, rfl, hR, hb⟩
              refine ⟨_, rfl, ?_⟩
              have IQ := Lib.hid (IQ.out.step hb)
              have RQ := Lib.hid (Kd.R_below RQ.out hb)
              have RC := Lib.hid (Kd.R_lower (Kd.R_mono (Kd.R_bound hR) (fun k hk => show wq.heap.size ≤ k from Nat.le_trans hHeld.size hk.2.1)) (show w0.heap.size ≤ wq.heap.size by have h1 := hHeld.size; have h2 := IQ0.out.b.size; omega))
              clear hR
              have hS_ := below_step hHeld hb
              clear hb hHeld
              refine hK.out _ _ hS_ (fun hHeld => ?_)
              clear hK K hS_
              refine norm_ (a' := ?_) ?_ ?_
              rotate_left
              · show Act.put _ (some 23) _ = _
                simp only [Act.put, List.setIfInBounds_toArray, List.set_cons_zero, List.set_cons_succ, i64_w, i32_w]
                rfl
              refine one_ (i := 4) (N := some 25) #[true, true, true, true, true, false, false] rfl rfl (by kernel_rfl) (by decide) (fun K hK => ?_)
              refine Kd.R_lit_step (Kd.int .i64) _ 2 ?hgu2 (N := 25) ?hdu22 (xs := [(j : Int)]) (inner := [.int .i64 j]) (ok := fun _ => True) (okp := fun _ => True) ?hru2 ?hpu2 (fun _ hk => hk) trivial (Below.refl _ _) (Nat.le_refl _) (by simp) ?_
              (case hdu22 => rfl)
              (case hgu2 => rfl)
              (case hru2 => first | (go_simp; done) | (go_simp; rfl))
              (case hpu2 => exact (Reps.one (show Kd.M (Kd.int .i64) _ _ _ (j : Int) [.int .i64 j] from rfl) (Reps.none _ _)))
              intro vL u2 ho hb hg_ hnew_
              clear hg_ hnew_
              have IQ := Lib.hid (IQ.out.step hb)
              have RQ := Lib.hid (Kd.R_below RQ.out hb)
              have RC := Lib.hid (Kd.R_below RC.out hb)
              have RLt := Lib.hid (Kd.R_lower (Kd.R_mono (Kd.R_bound ho) (fun k hk => show wq.heap.size ≤ k from Nat.le_trans hHeld.size hk.2.1)) (show w0.heap.size ≤ u1.heap.size by have h1 := hHeld.size; have h2 := IQ0.out.b.size; omega))
              clear ho
              have hS_ := below_step hHeld hb
              clear hb hHeld
              refine hK.out _ _ hS_ (fun hHeld => ?_)
              clear hK K hS_
              refine norm_ (a' := ?_) ?_ ?_
              rotate_left
              · show Act.put _ (some 25) _ = _
                simp only [Act.put, List.setIfInBounds_toArray, List.set_cons_zero, List.set_cons_succ, i64_w, i32_w]
                rfl
              obtain ⟨AL, cL, rfl⟩ := Kd.R_slice RLt.out
              refine one_ (i := 5) (N := some 26) #[true, true, true, true, true, true, false] rfl rfl (by kernel_rfl) (by decide) (fun K hK => ?_)
              refine Kd.R_append_rows_step (Kd.int .i64) (w0 := w0) w0.heap.size (by rfl) (.tmp 23) (.tmp 25) 24 2 (.int .i64 0) 8 rfl Tryd.underlying24 info2' rfl (by decide) (by omega) vC row [(j : Int)] _ _ _ (fun k => wq.heap.size ≤ k) (fun _ => False) rfl rfl ?aOa2 ?aRa2 (fun _ _ h => h) (fun _ h => h.elim) ?aFa2 ?aBa2 ?aSa2 ?aLa2 ?_
              (case aOa2 => exact RC.out)
              (case aRa2 => exact (Kd.R_reads' RLt.out).2.2)
              (case aFa2 => exact fun k hk => Nat.le_trans hHeld.size hk)
              (case aBa2 => exact IQ.out.b)
              (case aSa2 => exact IQ.out.b.size)
              (case aLa2 => have := HLEN.out; simp; omega)
              intro vA u3 ho hb hg hat
              have HS3 := Lib.hid (hHeld.trans (grown_append hg wq.heap.size hHeld.size (fun k hk => RC.out.1 k hk)))
              have I3 := Lib.hid (IQ0.out.step HS3.out)
              have R3 := Lib.hid (Kd.R_below RQ0.out HS3.out)
              have B3 := Lib.hid (Kd.R_below BQ0.out HS3.out)
              have A3 := Lib.hid (Kd.R_mono ho (fun k (hk : wq.heap.size ≤ k) => show okR gE gL gC gb k from by have h1 := IQ0.out.gs; refine ⟨?_, ?_, ?_, ?_⟩ <;> omega))
              clear ho hb hg hat hHeld
              refine hK.out _ _ HS3.out (fun hHeld => ?_)
              clear hK K
              refine norm_ (a' := ?_) ?_ ?_
              rotate_left
              · show Act.put _ (some 26) _ = _
                simp only [Act.put, List.setIfInBounds_toArray, List.set_cons_zero, List.set_cons_succ, i64_w, i32_w]
                rfl
              refine last_ (i := 6) (N := some 27) #[true, true, true, true, true, true, true] rfl rfl (by kernel_rfl) (by decide) (fun K hK => ?_)
              refine call_ 28 #[vA, .pointer (some ⟨gE, 0, none⟩), .pointer (some ⟨gL, 0, none⟩), .pointer (some ⟨gC, 0, none⟩)] (by rfl) rfl ?hruna2 ?_
              case hruna2 =>
                have he := EC.out
                unfold execOp
                simp [resolve, Deferred.ofValue, invoke, Act.eval, he]
              with_reducible refine (IH.out (row ++ [(j : Int)]) (longAt l d row best j) vA vj _ HLT2.out HLEN2.out HALL2.out I3.out A3.out B3.out).mono ?_
              rintro e u4 ⟨rfl, vb', hI4, hB4, hG4⟩
              refine ⟨_, rfl, ?_⟩
              have R4 := Lib.hid (row_grown R3.out hG4)
              have G4 := Lib.hid (grown_trans (grown_below GQ0.out HS3.out) hG4)
              refine hK.out _ _ ?_
              clear hK K
              refine norm_ (a' := ?_) ?_ ?_
              rotate_left
              · show Act.put _ (some 27) _ = _
                simp only [Act.put, List.setIfInBounds_toArray, List.set_cons_zero, List.set_cons_succ, i64_w, i32_w]
                rfl
              refine done_ (by kernel_rfl) ?_
              go_wp2
              go_roundw
              case measure => simp only [intOf]; omega
              case rel => exact ⟨j + 1, vb', by omega, by go_num, Lib.hid hI4, R4, Lib.hid (by rw [ES.out]; exact hB4), Lib.hid G4.out⟩
            · skip
              refine Kd.R_lit_step (Kd.int .i64) _ 2 ?hgu1 (N := 25) ?hdu1 (xs := [(j : Int)]) (inner := [.int .i64 j]) (ok := fun _ => True) (okp := fun _ => True) ?hru1 ?hpu1 (fun _ hk => hk) trivial (Below.refl _ _) (Nat.le_refl _) (by simp) ?_
              (case hdu1 => rfl)
              (case hgu1 => rfl)
              (case hru1 => first | (go_simp; done) | (go_simp; rfl))
              (case hpu1 => exact (Reps.one (show Kd.M (Kd.int .i64) _ _ _ (j : Int) [.int .i64 j] from rfl) (Reps.none _ _)))
              intro vL u1 ho hb hg_ hnew_
              clear hg_ hnew_
              have IQ := Lib.hid (IQ.out.step hb)
              have RQ := Lib.hid (Kd.R_below RQ.out hb)
              have RLt := Lib.hid (Kd.R_lower (Kd.R_mono (Kd.R_bound ho) (fun k hk => show wq.heap.size ≤ k from Nat.le_trans hHeld.size hk.2.1)) (show w0.heap.size ≤ wq.heap.size by have h1 := hHeld.size; have h2 := IQ0.out.b.size; omega))
              clear ho
              have hS_ := below_step hHeld hb
              clear hb hHeld
              refine hK.out _ _ hS_ (fun hHeld => ?_)
              clear hK K hS_
              refine norm_ (a' := ?_) ?_ ?_
              rotate_left
              · show Act.put _ (some 25) _ = _
                simp only [Act.put, List.setIfInBounds_toArray, List.set_cons_zero, List.set_cons_succ, i64_w, i32_w]
                rfl
              refine one_ (i := 2) (N := some 23) #[true, true, true, true, true, false, false] rfl rfl (by kernel_rfl) (by decide) (fun K hK => ?_)
              refine goes_ Tryd.func31 (by kernel_rfl) rfl #[.slice Ar row.length cr] (by rfl) rfl rfl (by (try simp only [List.map_toArray, List.map_cons, List.map_nil]); first | done | rfl) ?_
              with_reducible refine (cloneC Ar cr row _ (Kd.R_reads' RQ.out).2.2 (Kd.R_reads' RQ.out).2.1 (by have := HLEN.out; omega)).mono ?_
              rintro e u2 ⟨vC, rfl, hR, hb⟩
              refine ⟨_, rfl, ?_⟩
              have IQ := Lib.hid (IQ.out.step hb)
              have RQ := Lib.hid (Kd.R_below RQ.out hb)
              have RLt := Lib.hid (Kd.R_below RLt.out hb)
              have RC := Lib.hid (Kd.R_lower (Kd.R_mono (Kd.R_bound hR) (fun k hk => show wq.heap.size ≤ k from Nat.le_trans hHeld.size hk.2.1)) (show w0.heap.size ≤ u1.heap.size by have h1 := hHeld.size; have h2 := IQ0.out.b.size; omega))
              clear hR
              have hS_ := below_step hHeld hb
              clear hb hHeld
              refine hK.out _ _ hS_ (fun hHeld => ?_)
              clear hK K hS_
              refine norm_ (a' := ?_) ?_ ?_
              rotate_left
              · show Act.put _ (some 23) _ = _
                simp only [Act.put, List.setIfInBounds_toArray, List.set_cons_zero, List.set_cons_succ, i64_w, i32_w]
                rfl
              obtain ⟨AL, cL, rfl⟩ := Kd.R_slice RLt.out
              refine one_ (i := 5) (N := some 26) #[true, true, true, true, true, true, false] rfl rfl (by kernel_rfl) (by decide) (fun K hK => ?_)
              refine Kd.R_append_rows_step (Kd.int .i64) (w0 := w0) w0.heap.size (by rfl) (.tmp 23) (.tmp 25) 24 2 (.int .i64 0) 8 rfl Tryd.underlying24 info2' rfl (by decide) (by omega) vC row [(j : Int)] _ _ _ (fun k => wq.heap.size ≤ k) (fun _ => False) rfl rfl ?aOb2 ?aRb2 (fun _ _ h => h) (fun _ h => h.elim) ?aFb2 ?aBb2 ?aSb2 ?aLb2 ?_
              (case aOb2 => exact RC.out)
              (case aRb2 => exact (Kd.R_reads' RLt.out).2.2)
              (case aFb2 => exact fun k hk => Nat.le_trans hHeld.size hk)
              (case aBb2 => exact IQ.out.b)
              (case aSb2 => exact IQ.out.b.size)
              (case aLb2 => have := HLEN.out; simp; omega)
              intro vA u3 ho hb hg hat
              have HS3 := Lib.hid (hHeld.trans (grown_append hg wq.heap.size hHeld.size (fun k hk => RC.out.1 k hk)))
              have I3 := Lib.hid (IQ0.out.step HS3.out)
              have R3 := Lib.hid (Kd.R_below RQ0.out HS3.out)
              have B3 := Lib.hid (Kd.R_below BQ0.out HS3.out)
              have A3 := Lib.hid (Kd.R_mono ho (fun k (hk : wq.heap.size ≤ k) => show okR gE gL gC gb k from by have h1 := IQ0.out.gs; refine ⟨?_, ?_, ?_, ?_⟩ <;> omega))
              clear ho hb hg hat hHeld
              refine hK.out _ _ HS3.out (fun hHeld => ?_)
              clear hK K
              refine norm_ (a' := ?_) ?_ ?_
              rotate_left
              · show Act.put _ (some 26) _ = _
                simp only [Act.put, List.setIfInBounds_toArray, List.set_cons_zero, List.set_cons_succ, i64_w, i32_w]
                rfl
              refine last_ (i := 6) (N := some 27) #[true, true, true, true, true, true, true] rfl rfl (by kernel_rfl) (by decide) (fun K hK => ?_)
              refine call_ 28 #[vA, .pointer (some ⟨gE, 0, none⟩), .pointer (some ⟨gL, 0, none⟩), .pointer (some ⟨gC, 0, none⟩)] (by rfl) rfl ?hrunb2 ?_
              case hrunb2 =>
                have he := EC.out
                unfold execOp
                simp [resolve, Deferred.ofValue, invoke, Act.eval, he]
              with_reducible refine (IH.out (row ++ [(j : Int)]) (longAt l d row best j) vA vj _ HLT2.out HLEN2.out HALL2.out I3.out A3.out B3.out).mono ?_
              rintro e u4 ⟨rfl, vb', hI4, hB4, hG4⟩
              refine ⟨_, rfl, ?_⟩
              have R4 := Lib.hid (row_grown R3.out hG4)
              have G4 := Lib.hid (grown_trans (grown_below GQ0.out HS3.out) hG4)
              refine hK.out _ _ ?_
              clear hK K
              refine norm_ (a' := ?_) ?_ ?_
              rotate_left
              · show Act.put _ (some 27) _ = _
                simp only [Act.put, List.setIfInBounds_toArray, List.set_cons_zero, List.set_cons_succ, i64_w, i32_w]
                rfl
              refine done_ (by kernel_rfl) ?_
              go_wp2
              go_roundw
              case measure => simp only [intOf]; omega
              case rel => exact ⟨j + 1, vb', by omega, by go_num, Lib.hid hI4, R4, Lib.hid (by rw [ES.out]; exact hB4), Lib.hid G4.out⟩
        · have hjl2 : ¬ (j : Int) < (l.length : Int) := by omega
          obtain rfl : j = l.length := by omega
          go_wp2
          (try simp only [Exit.inBlock, Exit.then])
          refine bodyPost_end (results_none rfl _ _ _) rfl ?_
          exact ⟨rfl, vj, IV.out, BV.out, GV.out⟩
  · have h02 : decide ((row.length : Int) > 0) = false := decide_eq_false (by omega)
    have h03 : ¬ (0 : Int) < (row.length : Int) := by omega
    have UP := Lib.hid (show ups row best = best from if_neg (by omega))
    have IX := HI
    have RX := HRr
    have BX := Lib.hid (show Kd.R (Kd.int .i64) 2 W w0.heap.size (okR gE gL gC gb) (.slice Bb best.length cb) (longAt l d row best 0) from by
      have e : longAt l d row best 0 = best := UP.out
      rw [e]
      exact HRb.out)
    have GX := Lib.hid (World.grownBy.refl W (some gb))
    go_enter Tryd.func28, Tryd.ntmps28
    go_wp2_with (first
      | (go_at_call 29
         with_reducible refine (impl_size_impl_Piece.calls A c l (l.length : Int) _ (Kd.C_below HR.out IX.out.b) HC.out rfl).mono ?_
         rintro e w' ⟨rfl, ⟨nd, rfl⟩⟩
         have IL := Lib.hid (IX.out.step (pw_below_drewN (Below.refl _ _) nd))
         have RL := Lib.hid (Kd.R_below RX.out (pw_below_drewN (Below.refl _ _) nd))
         have BL := Lib.hid (Kd.R_below BX.out (pw_below_drewN (Below.refl _ _) nd))
         have GL := Lib.hid (grown_below GX.out (pw_below_drewN (Below.refl _ _) nd))
         clear eE eL))
    go_loopw [5, 14] (fun v5 i wr => ∃ (j : Nat) (vj : Value), j ≤ l.length ∧ i = .int .i64 j ∧ RowKit.Hid (CH A c l.length gE gL gC gb vj w0 wr) ∧ RowKit.Hid (Kd.R (Kd.int .i64) 2 wr w0.heap.size (okR gE gL gC gb) (.slice Ar row.length cr) row) ∧ RowKit.Hid (Kd.R (Kd.int .i64) 2 wr w0.heap.size (okR gE gL gC gb) vj (longAt l d row best j)) ∧ RowKit.Hid (W.grownBy wr (some gb))) (fun _ i _ => l.length - (intOf i).toNat)
    case atStart => exact ⟨0, _, Nat.zero_le _, rfl, IL, RL, BL, GL⟩
    case round =>
      clear IL RL BL GL IX RX BX GX
      have hbl : (l.length : Int) ≤ 1048576 := by have := HL.out; omega
      obtain ⟨j, vj, hj, rfl, IV, RV, BV, GV⟩ := hrel
      have eL : wr.cell? ⟨gL, 0, none⟩ = some (.slice A l.length c) := (blk_cell IV.out.kL 0).trans rfl
      by_cases hjl : j < l.length
      · have hjl2 : (j : Int) < (l.length : Int) := by omega
        have HN := Lib.hid (numB_iff.2 ⟨by omega, hjl2⟩ : numB l (j : Int) = true)
        have HV := Lib.hid (fun (b : Bool) (hb : goesB l row (j : Int) = b) => (impl_goesOn.val l row (j : Int) HALL.out HN.out (by have := HLEN.out; omega)).trans (congrArg some hb))
        cases hg : goesB l row (j : Int) with
        | false =>
          have HQ := Lib.hid (HV.out false hg)
          have ES := Lib.hid (show longAt l d row best (j + 1) = longAt l d row best j by rw [longAt_step, hg]; rfl)
          clear hg
          go_wp2_with (first
            | (go_at_call 30
               with_reducible refine (impl_goesOn.calls (row.length + 1) A c l Ar cr row (j : Int) false _ (Kd.C_below HR.out IV.out.b) HC.out (Kd.R_reads' RV.out).2.2 (Kd.R_reads' RV.out).2.1 HQ.out).mono ?_
               rintro e wg ⟨rfl, hb⟩))
          go_roundw
          case measure => simp only [intOf]; omega
          case rel => exact ⟨j + 1, _, by omega, by go_num, Lib.hid (IV.out.step hb), Lib.hid (Kd.R_below RV.out hb), Lib.hid (by rw [ES.out]; exact Kd.R_below BV.out hb), Lib.hid (grown_below GV.out hb)⟩
        | true =>
          have HQ := Lib.hid (HV.out true hg)
          have ES := Lib.hid (show longAt l d row best (j + 1) = longGo l d (row ++ [(j : Int)]) (longAt l d row best j) by rw [longAt_step, hg]; rfl)
          have HLT2 := Lib.hid (show leftN l.length (row ++ [(j : Int)]) < d by have h1 := leftN_less hjl (goesB_has hg); have h2 := HLT.out; omega)
          have HLEN2 := Lib.hid (show (row ++ [(j : Int)]).length + d ≤ 9 by have := HLEN.out; rw [List.length_append, List.length_singleton]; omega)
          have HALL2 := Lib.hid (row_all hjl HALL.out)
          clear hg
          go_wp2_with (first
            | (go_at_call 30
               with_reducible refine (impl_goesOn.calls (row.length + 1) A c l Ar cr row (j : Int) true _ (Kd.C_below HR.out IV.out.b) HC.out (Kd.R_reads' RV.out).2.2 (Kd.R_reads' RV.out).2.1 HQ.out).mono ?_
               rintro e wg ⟨rfl, hb⟩
               have IG := Lib.hid (IV.out.step hb)
               have RG := Lib.hid (Kd.R_below RV.out hb)
               have BG := Lib.hid (Kd.R_below BV.out hb)
               have GG := Lib.hid (grown_below GV.out hb)
               clear hb IV RV BV GV eL))
          refine start_ (n := 7) (S := fun w' => Below wg.drew.heap.size wg.drew w') (ds := [6]) #[false, false, false, false, false, false, false] (by kernel_rfl) rfl rfl (Below.refl _ _) (fun hHeld => ?_)
          have IQ0 := Lib.hid (IG.out.step (below_drew1 (Below.refl wg.heap.size wg)))
          have RQ0 := Lib.hid (Kd.R_below RG.out (below_drew1 (Below.refl wg.heap.size wg)))
          have BQ0 := Lib.hid (Kd.R_below BG.out (below_drew1 (Below.refl wg.heap.size wg)))
          have GQ0 := Lib.hid (grown_below GG.out (below_drew1 (Below.refl wg.heap.size wg)))
          clear IG RG BG GG
          generalize wg.drew = wq at IQ0 RQ0 BQ0 GQ0 hHeld ⊢
          have IQ := IQ0
          have RQ := RQ0
          refine take_ (i := 0) (N := some 21) (v := ?_) (a' := ?_) #[true, false, false, false, false, false, false] rfl rfl (by kernel_rfl) (fun _ _ _ h => h) (Or.inl ⟨by rfl, ?_⟩) hHeld ?_ ?_
          rotate_left
          · rintro w' s
            have q : w'.cell? ⟨gC, 0, none⟩ = some (.func (.func 28) #[] #[.pointer (some ⟨gE, 0, none⟩), .pointer (some ⟨gL, 0, none⟩), .pointer (some ⟨gC, 0, none⟩)]) := (blk_cell ((s.block _ (blk_lt IQ0.out.kC)).trans IQ0.out.kC) 0).trans rfl
            go_simp
            with_reducible rfl
          rotate_left
          · simp only [Act.put, List.setIfInBounds_toArray, List.set_cons_zero, List.set_cons_succ, i64_w, i32_w]
            rfl
          refine pure_ (i := 1) (N := some 22) (v := ?_) (a' := ?_) #[true, true, false, false, false, false, false] rfl rfl (by kernel_rfl) (fun _ _ _ h => h) (Or.inl ⟨by rfl, ?_⟩) ?_ ?_
          rotate_left
          · intro w'
            go_simp
            with_reducible rfl
          rotate_left
          · simp only [Act.put, List.setIfInBounds_toArray, List.set_cons_zero, List.set_cons_succ, i64_w, i32_w]
            rfl
          refine pure_ (i := 3) (N := some 24) (v := ?_) (a' := ?_) #[true, true, false, true, false, false, false] rfl rfl (by kernel_rfl) (fun _ _ _ h => h) (Or.inl ⟨by rfl, ?_⟩) ?_ ?_
          rotate_left
          · intro w'
            go_simp
            with_reducible rfl
          rotate_left
          · simp only [Act.put, List.setIfInBounds_toArray, List.set_cons_zero, List.set_cons_succ, i64_w, i32_w]
            rfl
          refine two_ (i := 2) (j := 4) (Ni := some 23) (Nj := some 25) #[true, true, true, true, false, false, false] #[true, true, false, true, true, false, false] rfl rfl rfl rfl (by kernel_rfl) (by decide) (by decide) (fun K hK => ?_) (fun K hK => ?_)
          · skip
            refine goes_ Tryd.func31 (by kernel_rfl) rfl #[.slice Ar row.length cr] (by rfl) rfl rfl (by (try simp only [List.map_toArray, List.map_cons, List.map_nil]); first | done | rfl) ?_
            with_reducible refine (cloneC Ar cr row _ (Kd.R_reads' RQ.out).2.2 (Kd.R_reads' RQ.out).2.1 (by have := HLEN.out; omega)).mono ?_
            rintro e u1 ⟨vC, rfl, hR, hb⟩
            refine ⟨_, rfl, ?_⟩
            have IQ := Lib.hid (IQ.out.step hb)
            have RQ := Lib.hid (Kd.R_below RQ.out hb)
            have RC := Lib.hid (Kd.R_lower (Kd.R_mono (Kd.R_bound hR) (fun k hk => show wq.heap.size ≤ k from Nat.le_trans hHeld.size hk.2.1)) (show w0.heap.size ≤ wq.heap.size by have h1 := hHeld.size; have h2 := IQ0.out.b.size; omega))
            clear hR
            have hS_ := below_step hHeld hb
            clear hb hHeld
            refine hK.out _ _ hS_ (fun hHeld => ?_)
            clear hK K hS_
            refine norm_ (a' := ?_) ?_ ?_
            rotate_left
            · show Act.put _ (some 23) _ = _
              simp only [Act.put, List.setIfInBounds_toArray, List.set_cons_zero, List.set_cons_succ, i64_w, i32_w]
              rfl
            refine one_ (i := 4) (N := some 25) #[true, true, true, true, true, false, false] rfl rfl (by kernel_rfl) (by decide) (fun K hK => ?_)
            refine Kd.R_lit_step (Kd.int .i64) _ 2 ?hgu2 (N := 25) ?hdu23 (xs := [(j : Int)]) (inner := [.int .i64 j]) (ok := fun _ => True) (okp := fun _ => True) ?hru2 ?hpu2 (fun _ hk => hk) trivial (Below.refl _ _) (Nat.le_refl _) (by simp) ?_
            (case hdu23 => rfl)
            (case hgu2 => rfl)
            (case hru2 => first | (go_simp; done) | (go_simp; rfl))
            (case hpu2 => exact (Reps.one (show Kd.M (Kd.int .i64) _ _ _ (j : Int) [.int .i64 j] from rfl) (Reps.none _ _)))
            intro vL u2 ho hb hg_ hnew_
            clear hg_ hnew_
            have IQ := Lib.hid (IQ.out.step hb)
            have RQ := Lib.hid (Kd.R_below RQ.out hb)
            have RC := Lib.hid (Kd.R_below RC.out hb)
            have RLt := Lib.hid (Kd.R_lower (Kd.R_mono (Kd.R_bound ho) (fun k hk => show wq.heap.size ≤ k from Nat.le_trans hHeld.size hk.2.1)) (show w0.heap.size ≤ u1.heap.size by have h1 := hHeld.size; have h2 := IQ0.out.b.size; omega))
            clear ho
            have hS_ := below_step hHeld hb
            clear hb hHeld
            refine hK.out _ _ hS_ (fun hHeld => ?_)
            clear hK K hS_
            refine norm_ (a' := ?_) ?_ ?_
            rotate_left
            · show Act.put _ (some 25) _ = _
              simp only [Act.put, List.setIfInBounds_toArray, List.set_cons_zero, List.set_cons_succ, i64_w, i32_w]
              rfl
            obtain ⟨AL, cL, rfl⟩ := Kd.R_slice RLt.out
            refine one_ (i := 5) (N := some 26) #[true, true, true, true, true, true, false] rfl rfl (by kernel_rfl) (by decide) (fun K hK => ?_)
            refine Kd.R_append_rows_step (Kd.int .i64) (w0 := w0) w0.heap.size (by rfl) (.tmp 23) (.tmp 25) 24 2 (.int .i64 0) 8 rfl Tryd.underlying24 info2' rfl (by decide) (by omega) vC row [(j : Int)] _ _ _ (fun k => wq.heap.size ≤ k) (fun _ => False) rfl rfl ?aOa3 ?aRa3 (fun _ _ h => h) (fun _ h => h.elim) ?aFa3 ?aBa3 ?aSa3 ?aLa3 ?_
            (case aOa3 => exact RC.out)
            (case aRa3 => exact (Kd.R_reads' RLt.out).2.2)
            (case aFa3 => exact fun k hk => Nat.le_trans hHeld.size hk)
            (case aBa3 => exact IQ.out.b)
            (case aSa3 => exact IQ.out.b.size)
            (case aLa3 => have := HLEN.out; simp; omega)
            intro vA u3 ho hb hg hat
            have HS3 := Lib.hid (hHeld.trans (grown_append hg wq.heap.size hHeld.size (fun k hk => RC.out.1 k hk)))
            have I3 := Lib.hid (IQ0.out.step HS3.out)
            have R3 := Lib.hid (Kd.R_below RQ0.out HS3.out)
            have B3 := Lib.hid (Kd.R_below BQ0.out HS3.out)
            have A3 := Lib.hid (Kd.R_mono ho (fun k (hk : wq.heap.size ≤ k) => show okR gE gL gC gb k from by have h1 := IQ0.out.gs; refine ⟨?_, ?_, ?_, ?_⟩ <;> omega))
            clear ho hb hg hat hHeld
            refine hK.out _ _ HS3.out (fun hHeld => ?_)
            clear hK K
            refine norm_ (a' := ?_) ?_ ?_
            rotate_left
            · show Act.put _ (some 26) _ = _
              simp only [Act.put, List.setIfInBounds_toArray, List.set_cons_zero, List.set_cons_succ, i64_w, i32_w]
              rfl
            refine last_ (i := 6) (N := some 27) #[true, true, true, true, true, true, true] rfl rfl (by kernel_rfl) (by decide) (fun K hK => ?_)
            refine call_ 28 #[vA, .pointer (some ⟨gE, 0, none⟩), .pointer (some ⟨gL, 0, none⟩), .pointer (some ⟨gC, 0, none⟩)] (by rfl) rfl ?hruna3 ?_
            case hruna3 =>
              have he := EC.out
              unfold execOp
              simp [resolve, Deferred.ofValue, invoke, Act.eval, he]
            with_reducible refine (IH.out (row ++ [(j : Int)]) (longAt l d row best j) vA vj _ HLT2.out HLEN2.out HALL2.out I3.out A3.out B3.out).mono ?_
            rintro e u4 ⟨rfl, vb', hI4, hB4, hG4⟩
            refine ⟨_, rfl, ?_⟩
            have R4 := Lib.hid (row_grown R3.out hG4)
            have G4 := Lib.hid (grown_trans (grown_below GQ0.out HS3.out) hG4)
            refine hK.out _ _ ?_
            clear hK K
            refine norm_ (a' := ?_) ?_ ?_
            rotate_left
            · show Act.put _ (some 27) _ = _
              simp only [Act.put, List.setIfInBounds_toArray, List.set_cons_zero, List.set_cons_succ, i64_w, i32_w]
              rfl
            refine done_ (by kernel_rfl) ?_
            go_wp2
            go_roundw
            case measure => simp only [intOf]; omega
            case rel => exact ⟨j + 1, vb', by omega, by go_num, Lib.hid hI4, R4, Lib.hid (by rw [ES.out]; exact hB4), Lib.hid G4.out⟩
          · skip
            refine Kd.R_lit_step (Kd.int .i64) _ 2 ?hgu1 (N := 25) ?hdu1 (xs := [(j : Int)]) (inner := [.int .i64 j]) (ok := fun _ => True) (okp := fun _ => True) ?hru1 ?hpu1 (fun _ hk => hk) trivial (Below.refl _ _) (Nat.le_refl _) (by simp) ?_
            (case hdu1 => rfl)
            (case hgu1 => rfl)
            (case hru1 => first | (go_simp; done) | (go_simp; rfl))
            (case hpu1 => exact (Reps.one (show Kd.M (Kd.int .i64) _ _ _ (j : Int) [.int .i64 j] from rfl) (Reps.none _ _)))
            intro vL u1 ho hb hg_ hnew_
            clear hg_ hnew_
            have IQ := Lib.hid (IQ.out.step hb)
            have RQ := Lib.hid (Kd.R_below RQ.out hb)
            have RLt := Lib.hid (Kd.R_lower (Kd.R_mono (Kd.R_bound ho) (fun k hk => show wq.heap.size ≤ k from Nat.le_trans hHeld.size hk.2.1)) (show w0.heap.size ≤ wq.heap.size by have h1 := hHeld.size; have h2 := IQ0.out.b.size; omega))
            clear ho
            have hS_ := below_step hHeld hb
            clear hb hHeld
            refine hK.out _ _ hS_ (fun hHeld => ?_)
            clear hK K hS_
            refine norm_ (a' := ?_) ?_ ?_
            rotate_left
            · show Act.put _ (some 25) _ = _
              simp only [Act.put, List.setIfInBounds_toArray, List.set_cons_zero, List.set_cons_succ, i64_w, i32_w]
              rfl
            refine one_ (i := 2) (N := some 23) #[true, true, true, true, true, false, false] rfl rfl (by kernel_rfl) (by decide) (fun K hK => ?_)
            refine goes_ Tryd.func31 (by kernel_rfl) rfl #[.slice Ar row.length cr] (by rfl) rfl rfl (by (try simp only [List.map_toArray, List.map_cons, List.map_nil]); first | done | rfl) ?_
            with_reducible refine (cloneC Ar cr row _ (Kd.R_reads' RQ.out).2.2 (Kd.R_reads' RQ.out).2.1 (by have := HLEN.out; omega)).mono ?_
            rintro e u2 ⟨vC, rfl, hR, hb⟩
            refine ⟨_, rfl, ?_⟩
            have IQ := Lib.hid (IQ.out.step hb)
            have RQ := Lib.hid (Kd.R_below RQ.out hb)
            have RLt := Lib.hid (Kd.R_below RLt.out hb)
            have RC := Lib.hid (Kd.R_lower (Kd.R_mono (Kd.R_bound hR) (fun k hk => show wq.heap.size ≤ k from Nat.le_trans hHeld.size hk.2.1)) (show w0.heap.size ≤ u1.heap.size by have h1 := hHeld.size; have h2 := IQ0.out.b.size; omega))
            clear hR
            have hS_ := below_step hHeld hb
            clear hb hHeld
            refine hK.out _ _ hS_ (fun hHeld => ?_)
            clear hK K hS_
            refine norm_ (a' := ?_) ?_ ?_
            rotate_left
            · show Act.put _ (some 23) _ = _
              simp only [Act.put, List.setIfInBounds_toArray, List.set_cons_zero, List.set_cons_succ, i64_w, i32_w]
              rfl
            obtain ⟨AL, cL, rfl⟩ := Kd.R_slice RLt.out
            refine one_ (i := 5) (N := some 26) #[true, true, true, true, true, true, false] rfl rfl (by kernel_rfl) (by decide) (fun K hK => ?_)
            refine Kd.R_append_rows_step (Kd.int .i64) (w0 := w0) w0.heap.size (by rfl) (.tmp 23) (.tmp 25) 24 2 (.int .i64 0) 8 rfl Tryd.underlying24 info2' rfl (by decide) (by omega) vC row [(j : Int)] _ _ _ (fun k => wq.heap.size ≤ k) (fun _ => False) rfl rfl ?aOb3 ?aRb3 (fun _ _ h => h) (fun _ h => h.elim) ?aFb3 ?aBb3 ?aSb3 ?aLb3 ?_
            (case aOb3 => exact RC.out)
            (case aRb3 => exact (Kd.R_reads' RLt.out).2.2)
            (case aFb3 => exact fun k hk => Nat.le_trans hHeld.size hk)
            (case aBb3 => exact IQ.out.b)
            (case aSb3 => exact IQ.out.b.size)
            (case aLb3 => have := HLEN.out; simp; omega)
            intro vA u3 ho hb hg hat
            have HS3 := Lib.hid (hHeld.trans (grown_append hg wq.heap.size hHeld.size (fun k hk => RC.out.1 k hk)))
            have I3 := Lib.hid (IQ0.out.step HS3.out)
            have R3 := Lib.hid (Kd.R_below RQ0.out HS3.out)
            have B3 := Lib.hid (Kd.R_below BQ0.out HS3.out)
            have A3 := Lib.hid (Kd.R_mono ho (fun k (hk : wq.heap.size ≤ k) => show okR gE gL gC gb k from by have h1 := IQ0.out.gs; refine ⟨?_, ?_, ?_, ?_⟩ <;> omega))
            clear ho hb hg hat hHeld
            refine hK.out _ _ HS3.out (fun hHeld => ?_)
            clear hK K
            refine norm_ (a' := ?_) ?_ ?_
            rotate_left
            · show Act.put _ (some 26) _ = _
              simp only [Act.put, List.setIfInBounds_toArray, List.set_cons_zero, List.set_cons_succ, i64_w, i32_w]
              rfl
            refine last_ (i := 6) (N := some 27) #[true, true, true, true, true, true, true] rfl rfl (by kernel_rfl) (by decide) (fun K hK => ?_)
            refine call_ 28 #[vA, .pointer (some ⟨gE, 0, none⟩), .pointer (some ⟨gL, 0, none⟩), .pointer (some ⟨gC, 0, none⟩)] (by rfl) rfl ?hrunb3 ?_
            case hrunb3 =>
              have he := EC.out
              unfold execOp
              simp [resolve, Deferred.ofValue, invoke, Act.eval, he]
            with_reducible refine (IH.out (row ++ [(j : Int)]) (longAt l d row best j) vA vj _ HLT2.out HLEN2.out HALL2.out I3.out A3.out B3.out).mono ?_
            rintro e u4 ⟨rfl, vb', hI4, hB4, hG4⟩
            refine ⟨_, rfl, ?_⟩
            have R4 := Lib.hid (row_grown R3.out hG4)
            have G4 := Lib.hid (grown_trans (grown_below GQ0.out HS3.out) hG4)
            refine hK.out _ _ ?_
            clear hK K
            refine norm_ (a' := ?_) ?_ ?_
            rotate_left
            · show Act.put _ (some 27) _ = _
              simp only [Act.put, List.setIfInBounds_toArray, List.set_cons_zero, List.set_cons_succ, i64_w, i32_w]
              rfl
            refine done_ (by kernel_rfl) ?_
            go_wp2
            go_roundw
            case measure => simp only [intOf]; omega
            case rel => exact ⟨j + 1, vb', by omega, by go_num, Lib.hid hI4, R4, Lib.hid (by rw [ES.out]; exact hB4), Lib.hid G4.out⟩
      · have hjl2 : ¬ (j : Int) < (l.length : Int) := by omega
        obtain rfl : j = l.length := by omega
        go_wp2
        (try simp only [Exit.inBlock, Exit.then])
        refine bodyPost_end (results_none rfl _ _ _) rfl ?_
        exact ⟨rfl, vj, IV.out, BV.out, GV.out⟩
end Go.Proofs.YtfgifjdapojheaaDoor.Q
