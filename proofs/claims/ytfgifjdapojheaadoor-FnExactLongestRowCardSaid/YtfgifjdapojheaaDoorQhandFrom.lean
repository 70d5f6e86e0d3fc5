/- (*spec.l04Rows).from and spec.LongestRow, by hand. -/
import Derived.Test.YtfgifjdapojheaaDoorQhandImplLong
import Derived.Test.YtfgifjdapojheaaDoorQspecCanJoin
import Derived.Deep.DeepCutAuto
namespace Go.Proofs.YtfgifjdapojheaaDoor.Q
open Go.RowKit Go.Proofs.YtfgifjdapojheaaDoorW.PrintWords Go.Proofs.YtfgifjdapojheaaDoorW.PrintLast Go.Proofs.YtfgifjdapojheaaDoorW.PrintMore
open Go.Proofs.YtfgifjdapojheaaDoor.Pure
set_option linter.unusedVariables false
set_option linter.unusedSimpArgs false

/-- The search's own record: the list, the best row so far; no words, no other rows. -/
structure SH (A : Option Addr) (c n gr : Nat) (vb : Value) (w0 W : World) : Prop where
  le : w0.heap.size ≤ gr
  k : W.heap[gr]? = some (.cells #[.slice A n c, .slice none 0 0, vb, .slice none 0 0] 42 (0, 0))
  b : Below w0.heap.size w0 W
section
variable {A : Option Addr} {c n gr : Nat} {vb : Value} {w0 W W' X Y : World}
theorem SH.step (h : SH A c n gr vb w0 W) (hb : Below W.heap.size W W') : SH A c n gr vb w0 W' := ⟨h.le, (hb.block _ (blk_lt h.k)).trans h.k, below_step h.b hb⟩
theorem SH.put (h : SH A c n gr vb w0 W) (v : Value) : SH A c n gr v w0 (W.setCell ⟨gr, 2, none⟩ v) := ⟨h.le, blk_put h.k 2 v rfl, below_set h.b h.le⟩
theorem SH.c0 (h : SH A c n gr vb w0 W) : W.cell? ⟨gr, 0, none⟩ = some (.slice A n c) := (blk_cell h.k 0).trans rfl
theorem SH.c1 (h : SH A c n gr vb w0 W) : W.cell? ⟨gr, 1, none⟩ = some (.slice none 0 0) := (blk_cell h.k 1).trans rfl
theorem SH.c2 (h : SH A c n gr vb w0 W) : W.cell? ⟨gr, 2, none⟩ = some vb := (blk_cell h.k 2).trans rfl
theorem SH.fz (h : SH A c n gr vb w0 W) : W.frozen? ⟨gr, 2, none⟩ = false := blk_frozen h.k 2
theorem grown_put2 {g : Nat} {v : Value} : W.grownBy (W.setCell ⟨g, 2, none⟩ v) (some g) :=
  ⟨rfl, rfl, rfl, by simp, fun k _ hne => Below.heap_setCell W ⟨g, 2, none⟩ v k (fun e => hne (congrArg some e))⟩
theorem row_grown2 {base : Nat} {v : Value} {xs : List Int} (h : Kd.R (Kd.int .i64) 2 X base (fun k => k ≠ gr) v xs) (hg : X.grownBy Y (some gr)) : Kd.R (Kd.int .i64) 2 Y base (fun k => k ≠ gr) v xs :=
  Kd.R_step h (fun k hok hlt => hg.block k hlt (fun e => hok (Option.some.inj e)))
theorem row_put2 {base : Nat} {v u : Value} {xs : List Int} (h : Kd.R (Kd.int .i64) 2 X base (fun k => k ≠ gr) v xs) : Kd.R (Kd.int .i64) 2 (X.setCell ⟨gr, 2, none⟩ u) base (fun k => k ≠ gr) v xs :=
  Kd.R_far h (p := ⟨gr, 2, none⟩) (fun k hk => hk) u
end
theorem bcell {w w' : World} {p : Addr} {v : Value} (hb : Below w.heap.size w w') (h : w.cell? p = some v) : w'.cell? p = some v := (hb.cell (World.block_lt_of_cell? w _ h)).trans h
theorem addr_zero (a : Addr) : a.add 0 = a := by unfold Addr.add; rw [if_pos rfl]
theorem canJoin_val (x y : S44) : spec_CanJoin.f x.f0 x.f1 x.f2 y.f0 y.f1 y.f2 = some (joinsB x y) := rfl

set_option maxHeartbeats 16000000 in
set_option maxRecDepth 100000 in
theorem fromC (l : List S44) (hp : piecesB l = true) (A : Option Addr) (c : Nat) (hc : l.length ≤ c) (w0 : World) (hr : Kd.C k44 w0 A l.length l) (gr : Nat) : ∀ (d : Nat) (row best : List Int) (vr vb : Value) (s : ByteArray) (W : World), leftN l.length row < d → row.length + d ≤ 9 → s.size + 20 * d ≤ 200 → row.all (numB l) = true →
    SH A c l.length gr vb w0 W → Kd.R (Kd.int .i64) 2 W w0.heap.size (fun k => k ≠ gr) vr row → Kd.R (Kd.int .i64) 2 W w0.heap.size (fun k => k ≠ gr) vb best →
    Calls Tryd.prog 15 #[.pointer (some ⟨gr, 0, none⟩), vr, .string s] W fun e w' => e = .returned (.tuple #[]) ∧ ∃ vb', SH A c l.length gr vb' w0 w' ∧ Kd.R (Kd.int .i64) 2 w' w0.heap.size (fun k => k ≠ gr) vb' (longGo l d row best) ∧ W.grownBy w' (some gr) := by
  have HSM := Lib.hid (pieces_small hp)
  have HC := Lib.hid hc
  have HR := Lib.hid hr
  clear hp hc hr
  intro d
  induction d with
  | zero =>
    intro row best vr vb s W h
    exact absurd h (Nat.not_lt_zero _)
  | succ d ih =>
  intro row best vr vb s W hlt hlen hsz hall hI hRr hRb
  obtain ⟨Ar, cr, rfl⟩ := Kd.R_slice hRr
  obtain ⟨Bb, cb, rfl⟩ := Kd.R_slice hRb
  have IH := Lib.hid ih
  have HLT := Lib.hid hlt
  have HLEN := Lib.hid hlen
  have HSZ := Lib.hid hsz
  have HALL := Lib.hid hall
  have HI := Lib.hid hI
  have HRr := Lib.hid hRr
  have HRb := Lib.hid hRb
  have g2 := hI.c2
  have hbr : (row.length : Int) ≤ 9 := by omega
  clear ih hlt hlen hsz hall hI hRr hRb
  go_enter Tryd.func15, Tryd.ntmps15
  go_upto_if 18 with (fail)
  go_cut [] (fun wx => ∃ v2 : Value, RowKit.Hid (SH A c l.length gr v2 w0 wx) ∧ RowKit.Hid (Kd.R (Kd.int .i64) 2 wx w0.heap.size (fun k => k ≠ gr) (.slice Ar row.length cr) row) ∧ RowKit.Hid (Kd.R (Kd.int .i64) 2 wx w0.heap.size (fun k => k ≠ gr) v2 (longAt l d row best 0)) ∧ RowKit.Hid (W.grownBy wx (some gr)))
  case first =>
    by_cases hbt : best.length < row.length
    · have h02 : decide ((row.length : Int) > (best.length : Int)) = true := decide_eq_true (by omega)
      have h04 : (best.length : Int) < (row.length : Int) := by omega
      have EB := Lib.hid (show longAt l d row best 0 = row from if_pos hbt)
      clear hbt
      go_wp2_with (first
        | ((with_reducible refine gate_dst (N := 20) rfl ?_); refine Kd.R_lit (Kd.int .i64) _ 2 ?hg (N := 20) ?hd (xs := ([] : List Int)) (inner := []) (ok := fun _ => True) (okp := fun _ => True) ?hr ?hp (fun _ hk => hk) trivial (Below.refl _ _) (Nat.le_refl _) (by simp) ?_; (case hd => rfl); (case hg => rfl); (case hr => first | (go_simp; done) | (go_simp; rfl)); (case hp => exact (Reps.none _ _)); intro v0 w7 ho8 hb hg_ hnew_; clear hg_ hnew_
           have I7 := Lib.hid (HI.out.step hb)
           have Q7 := Lib.hid (Kd.R_below HRr.out hb)
           have R7 := Lib.hid (Kd.R_lower (ok := fun k => W.heap.size ≤ k) (Kd.R_mono (Kd.R_bound ho8) (fun k hk => hk.2.1)) HI.out.b.size)
           have L7 := Lib.hid hb
           clear ho8 hb g2)
        | ((with_reducible refine gate_builtin (b := .append) (xs := #[.tmp 20, .tmp 21]) rfl ?_); at_builtin; refine Kd.R_append_rows (Kd.int .i64) (w0 := w0) w0.heap.size rfl (.tmp 20) (.tmp 21) 24 2 (.int .i64 0) 8 rfl Tryd.underlying24 info2' rfl (by decide) (by omega) v0 [] row _ _ _ (fun k => W.heap.size ≤ k) (fun _ => False) rfl rfl ?aO ?aR (fun _ _ h => h) (fun _ h => h.elim) ?aF ?aB ?aS ?aL ?_; (case aO => exact R7.out); (case aR => exact (Kd.R_reads' Q7.out).2.2); (case aF => exact fun k hk => Nat.le_trans L7.out.size hk); (case aB => exact I7.out.b); (case aS => exact I7.out.b.size); (case aL => have := HLEN.out; simp; omega); intro v2 w8 ho hb hg hat
           have L8 := Lib.hid (Below.trans L7.out (grown_append hg W.heap.size L7.out.size (fun k hk => R7.out.1 k hk)))
           have I8 := Lib.hid (HI.out.step L8.out)
           have Q8 := Lib.hid (Kd.R_below HRr.out L8.out)
           obtain ⟨B8, d8, rfl⟩ := Kd.R_slice ho
           have R8 := Lib.hid (Kd.R_mono (ok' := fun k => k ≠ gr) ho (fun k (hk : W.heap.size ≤ k) => by have h1 := blk_lt HI.out.k; omega))
           have g2 := I8.out.c2
           have fz2 := I8.out.fz
           clear ho hb hg hat))
      go_meet
      exact ⟨_, Lib.hid (I8.out.put _), Lib.hid (row_put2 Q8.out), Lib.hid (by rw [EB.out]; exact row_put2 R8.out), Lib.hid (grown_trans (grown_of L8.out) grown_put2)⟩
    · have h02 : decide ((row.length : Int) > (best.length : Int)) = false := decide_eq_false (by omega)
      have h04 : ¬ (best.length : Int) < (row.length : Int) := by omega
      have EB := Lib.hid (show longAt l d row best 0 = best from if_neg hbt)
      clear hbt
      go_wp2
      go_meet
      exact ⟨_, HI, HRr, Lib.hid (by rw [EB.out]; exact HRb.out), Lib.hid (World.grownBy.refl W (some gr))⟩
  case rest =>
  obtain ⟨v2, IX, RX, BX, GX⟩ := hcut
  clear g2
  have hbl : (l.length : Int) ≤ 8 := by have := HSM.out.1; omega
  have c0 := IX.out.c0
  go_upto_region 3 with (fail)
  go_cut [54] (fun s54 wx => ∃ (b : Bool) (v2 : Value), s54 = .bool b ∧ RowKit.Hid (SH A c l.length gr v2 w0 wx) ∧ RowKit.Hid (Kd.R (Kd.int .i64) 2 wx w0.heap.size (fun k => k ≠ gr) (.slice Ar row.length cr) row) ∧ RowKit.Hid (Kd.R (Kd.int .i64) 2 wx w0.heap.size (fun k => k ≠ gr) v2 (longAt l d row best 0)) ∧ RowKit.Hid (W.grownBy wx (some gr)))
  case first =>
    by_cases h00 : 0 < row.length
    · have h01 : decide ((row.length : Int) > 0) = true := decide_eq_true (by omega)
      have h07 : decide ((0 : Int) < (row.length : Int)) = true := decide_eq_true (by omega)
      have h08 : decide (0 < row.length) = true := decide_eq_true (by omega)
      have h09 : (0 : Int) < (row.length : Int) := by omega
      have hm1 : IntKind.i64.wrap ((row.length : Int) - 1) = ((row.length - 1 : Nat) : Int) := by rw [show (row.length : Int) - 1 = ((row.length - 1 : Nat) : Int) by omega]; exact IntWalk.i64_in _ (by omega)
      have hm2 : ((row.length - 1 : Nat) : Int) < (row.length : Int) := by omega
      obtain ⟨hf0, hf1⟩ := numB_iff.1 (List.all_eq_true.1 HALL.out _ (show rd row (0 : Int) ∈ row from rd_mem row 0 h00))
      obtain ⟨hl0, hl1⟩ := numB_iff.1 (List.all_eq_true.1 HALL.out _ (rd_mem row (row.length - 1) (by omega)))
      obtain ⟨adr, er, hq0⟩ := Kd.at_int (Kd.R_reads' RX.out).2.2 (0 : Int) (by omega) (by omega)
      cases er
      obtain ⟨adr2, er, hq1⟩ := Kd.at_int (Kd.R_reads' RX.out).2.2 ((row.length - 1 : Nat) : Int) (by omega) (by omega)
      cases er
      obtain ⟨adl, el, hp0, hp1, hp2⟩ := at_T44 (Kd.C_below HR.out IX.out.b) (rd row (0 : Int)) (by omega) (by omega)
      cases el
      obtain ⟨adl2, el, hs0, hs1, hs2⟩ := at_T44 (Kd.C_below HR.out IX.out.b) (rd row ((row.length - 1 : Nat) : Int)) (by omega) (by omega)
      cases el
      simp only [Int.toNat_natCast] at hq1
      simp only [Int.toNat_zero] at hq0
      have hq0' := hq0
      rw [addr_zero] at hq0'
      cases hb1 : ((rd_T44 l (rd row 0)).f1 == 0) with
      | false =>
        go_quiet (fail)
        go_wp2
        go_meet
        exact ⟨_, _, rfl, Lib.hid (IX.out.step (by first | exact Below.refl _ _ | exact pw_below_drewN (Below.refl _ _) _ | exact pw_below_drewN (pw_below_drewN (Below.refl _ _) _) _)), Lib.hid (Kd.R_below RX.out (by first | exact Below.refl _ _ | exact pw_below_drewN (Below.refl _ _) _ | exact pw_below_drewN (pw_below_drewN (Below.refl _ _) _) _)), Lib.hid (Kd.R_below BX.out (by first | exact Below.refl _ _ | exact pw_below_drewN (Below.refl _ _) _ | exact pw_below_drewN (pw_below_drewN (Below.refl _ _) _) _)), Lib.hid (grown_below GX.out (by first | exact Below.refl _ _ | exact pw_below_drewN (Below.refl _ _) _ | exact pw_below_drewN (pw_below_drewN (Below.refl _ _) _) _))⟩
      | true =>
        cases hb2 : ((rd_T44 l (rd row ((row.length - 1 : Nat) : Int))).f2 == 0) with
        | false =>
          go_quiet (fail)
          go_wp2
          go_meet
          exact ⟨_, _, rfl, Lib.hid (IX.out.step (by first | exact Below.refl _ _ | exact pw_below_drewN (Below.refl _ _) _ | exact pw_below_drewN (pw_below_drewN (Below.refl _ _) _) _)), Lib.hid (Kd.R_below RX.out (by first | exact Below.refl _ _ | exact pw_below_drewN (Below.refl _ _) _ | exact pw_below_drewN (pw_below_drewN (Below.refl _ _) _) _)), Lib.hid (Kd.R_below BX.out (by first | exact Below.refl _ _ | exact pw_below_drewN (Below.refl _ _) _ | exact pw_below_drewN (pw_below_drewN (Below.refl _ _) _) _)), Lib.hid (grown_below GX.out (by first | exact Below.refl _ _ | exact pw_below_drewN (Below.refl _ _) _ | exact pw_below_drewN (pw_below_drewN (Below.refl _ _) _) _))⟩
        | true =>
          go_quiet (fail)
          go_wp2
          go_meet
          exact ⟨_, _, rfl, Lib.hid (IX.out.step (by first | exact Below.refl _ _ | exact pw_below_drewN (Below.refl _ _) _ | exact pw_below_drewN (pw_below_drewN (Below.refl _ _) _) _)), Lib.hid (Kd.R_below RX.out (by first | exact Below.refl _ _ | exact pw_below_drewN (Below.refl _ _) _ | exact pw_below_drewN (pw_below_drewN (Below.refl _ _) _) _)), Lib.hid (Kd.R_below BX.out (by first | exact Below.refl _ _ | exact pw_below_drewN (Below.refl _ _) _ | exact pw_below_drewN (pw_below_drewN (Below.refl _ _) _) _)), Lib.hid (grown_below GX.out (by first | exact Below.refl _ _ | exact pw_below_drewN (Below.refl _ _) _ | exact pw_below_drewN (pw_below_drewN (Below.refl _ _) _) _))⟩
    · have h01 : decide ((row.length : Int) > 0) = false := decide_eq_false (by omega)
      have h07 : decide ((0 : Int) < (row.length : Int)) = false := decide_eq_false (by omega)
      have h08 : decide (0 < row.length) = false := decide_eq_false (by omega)
      have h03 : ¬ (0 : Int) < (row.length : Int) := by omega
      clear h00
      go_quiet (fail)
      go_wp2
      go_meet
      exact ⟨_, _, rfl, Lib.hid (IX.out.step (by first | exact Below.refl _ _ | exact pw_below_drewN (Below.refl _ _) _ | exact pw_below_drewN (pw_below_drewN (Below.refl _ _) _) _)), Lib.hid (Kd.R_below RX.out (by first | exact Below.refl _ _ | exact pw_below_drewN (Below.refl _ _) _ | exact pw_below_drewN (pw_below_drewN (Below.refl _ _) _) _)), Lib.hid (Kd.R_below BX.out (by first | exact Below.refl _ _ | exact pw_below_drewN (Below.refl _ _) _ | exact pw_below_drewN (pw_below_drewN (Below.refl _ _) _) _)), Lib.hid (grown_below GX.out (by first | exact Below.refl _ _ | exact pw_below_drewN (Below.refl _ _) _ | exact pw_below_drewN (pw_below_drewN (Below.refl _ _) _) _))⟩
  case rest =>
  clear c0 IX RX BX GX v2
  obtain ⟨b, v2, rfl, IX, RX, BX, GX⟩ := hcut
  go_upto_if 54 with (fail)
  go_cut [] (fun wx => ∃ v2 : Value, RowKit.Hid (SH A c l.length gr v2 w0 wx) ∧ RowKit.Hid (Kd.R (Kd.int .i64) 2 wx w0.heap.size (fun k => k ≠ gr) (.slice Ar row.length cr) row) ∧ RowKit.Hid (Kd.R (Kd.int .i64) 2 wx w0.heap.size (fun k => k ≠ gr) v2 (longAt l d row best 0)) ∧ RowKit.Hid (W.grownBy wx (some gr)))
  case first =>
    cases b with
    | false =>
      go_wp2
      go_meet
      exact ⟨_, IX, RX, BX, GX⟩
    | true =>
      go_wp2
      go_loopw [7, 8] (fun f i wx => ∃ v2 : Value, f = .bool false ∧ i = .int .i64 0 ∧ RowKit.Hid (SH A c l.length gr v2 w0 wx) ∧ RowKit.Hid (Kd.R (Kd.int .i64) 2 wx w0.heap.size (fun k => k ≠ gr) (.slice Ar row.length cr) row) ∧ RowKit.Hid (Kd.R (Kd.int .i64) 2 wx w0.heap.size (fun k => k ≠ gr) v2 (longAt l d row best 0)) ∧ RowKit.Hid (W.grownBy wx (some gr))) (fun _ _ _ => 0)
      case atStart => exact ⟨_, rfl, rfl, IX, RX, BX, GX⟩
      case round =>
        clear IX RX BX GX v2
        obtain ⟨v2, rfl, rfl, IX, RX, BX, GX⟩ := hrel
        have c1 := IX.out.c1
        go_wp2
        go_meet
        exact ⟨_, IX, RX, BX, GX⟩
  case rest =>
  clear IX RX BX GX v2
  obtain ⟨v2, IX, RX, BX, GX⟩ := hcut
  go_wp2
  go_loopw [9] (fun i wr => ∃ (j : Nat) (vj : Value), j ≤ l.length ∧ i = .int .i64 j ∧ RowKit.Hid (SH A c l.length gr vj w0 wr) ∧ RowKit.Hid (Kd.R (Kd.int .i64) 2 wr w0.heap.size (fun k => k ≠ gr) (.slice Ar row.length cr) row) ∧ RowKit.Hid (Kd.R (Kd.int .i64) 2 wr w0.heap.size (fun k => k ≠ gr) vj (longAt l d row best j)) ∧ RowKit.Hid (W.grownBy wr (some gr))) (fun i _ => l.length - (intOf i).toNat)
  case atStart => exact ⟨0, _, Nat.zero_le _, rfl, Lib.hid (IX.out.step (by first | exact Below.refl _ _ | exact pw_below_drewN (Below.refl _ _) _ | exact pw_below_drewN (pw_below_drewN (Below.refl _ _) _) _)), Lib.hid (Kd.R_below RX.out (by first | exact Below.refl _ _ | exact pw_below_drewN (Below.refl _ _) _ | exact pw_below_drewN (pw_below_drewN (Below.refl _ _) _) _)), Lib.hid (Kd.R_below BX.out (by first | exact Below.refl _ _ | exact pw_below_drewN (Below.refl _ _) _ | exact pw_below_drewN (pw_below_drewN (Below.refl _ _) _) _)), Lib.hid (grown_below GX.out (by first | exact Below.refl _ _ | exact pw_below_drewN (Below.refl _ _) _ | exact pw_below_drewN (pw_below_drewN (Below.refl _ _) _) _))⟩
  case round =>
    clear IX RX BX GX
    obtain ⟨j, vj, hj, rfl, IV, RV, BV, GV⟩ := hrel
    have hbl : (l.length : Int) ≤ 8 := by have := HSM.out.1; omega
    have d0 := IV.out.c0
    by_cases hjl : j < l.length
    · have hjl2 : (j : Int) < (l.length : Int) := by omega
      have HN := Lib.hid (numB_iff.2 ⟨by omega, hjl2⟩ : numB l (j : Int) = true)
      by_cases h00 : row.length = 0
      · have h01 : decide ((row.length : Int) > 0) = false := decide_eq_false (by omega)
        have h05 : ((row.length : Int) == 0) = true := by rw [h00]; rfl
        have H00 := Lib.hid h00
        clear h00
        cases hh : (row.any fun x => (j : Int) == x) with
        | true =>
          have EG := Lib.hid (show goesB l row (j : Int) = false by unfold goesB; rw [hh]; rfl)
          have ES := Lib.hid (show longAt l d row best (j + 1) = longAt l d row best j by rw [longAt_step, EG.out]; rfl)
          have HH := Lib.hid ((spec_l00Has.val row (j : Int) (by omega)).trans (congrArg some hh))
          clear hh
          go_wp2
          refine start_ (n := 29) (S := fun w' => Below (wr).drew.heap.size (wr).drew w') (ds := []) #[false, false, false, false, false, false, false, false, false, false, false, false, false, false, false, false, false, false, false, false, false, false, false, false, false, false, false, false, false] (by kernel_rfl) rfl rfl (Below.refl _ _) (fun hHeld => ?_)
          have IQ0 := Lib.hid (IV.out.step (below_drew1 (Below.refl wr.heap.size wr)))
          have RQ0 := Lib.hid (Kd.R_below RV.out (below_drew1 (Below.refl wr.heap.size wr)))
          have BQ0 := Lib.hid (Kd.R_below BV.out (below_drew1 (Below.refl wr.heap.size wr)))
          have GQ0 := Lib.hid (grown_below GV.out (below_drew1 (Below.refl wr.heap.size wr)))
          clear IV RV BV GV
          generalize wr.drew = wq at IQ0 RQ0 BQ0 GQ0 hHeld ⊢
          have c0 := IQ0.out.c0
          obtain ⟨adk, ek, hk0, hk1, hk2⟩ := at_T44 (Kd.C_below HR.out IQ0.out.b) (j : Int) (by omega) (by omega)
          cases ek
          simp only [Int.toNat_natCast] at hk0 hk1 hk2
          refine pure_ (i := 0) (N := some 98) (v := ?_) (a' := ?_) #[true, false, false, false, false, false, false, false, false, false, false, false, false, false, false, false, false, false, false, false, false, false, false, false, false, false, false, false, false] rfl rfl (by kernel_rfl) (fun _ _ _ h => h) (Or.inl ⟨by rfl, ?_⟩) ?_ ?_
          rotate_left
          · intro w'
            go_simp
            with_reducible rfl
          rotate_left
          · simp only [Act.put, List.setIfInBounds_toArray, List.set_cons_zero, List.set_cons_succ, i64_w, i32_w]
            rfl
          refine pure_ (i := 1) (N := some 99) (v := ?_) (a' := ?_) #[true, true, false, false, false, false, false, false, false, false, false, false, false, false, false, false, false, false, false, false, false, false, false, false, false, false, false, false, false] rfl rfl (by kernel_rfl) (fun _ _ _ h => h) (Or.inl ⟨by rfl, ?_⟩) ?_ ?_
          rotate_left
          · intro w'
            go_simp
            with_reducible rfl
          rotate_left
          · simp only [Act.put, List.setIfInBounds_toArray, List.set_cons_zero, List.set_cons_succ, i64_w, i32_w]
            rfl
          refine one_ (i := 2) (N := some 100) #[true, true, true, false, false, false, false, false, false, false, false, false, false, false, false, false, false, false, false, false, false, false, false, false, false, false, false, false, false] rfl rfl (by kernel_rfl) (by decide) (fun K hK => ?_)
          refine goes_ Tryd.func23 (by kernel_rfl) rfl #[.slice Ar row.length cr, .int .i64 j] (by rfl) rfl rfl (by (try simp only [List.map_toArray, List.map_cons, List.map_nil]); first | done | rfl | (simp only [List.length_drop, List.length_take]; rfl)) ?_
          with_reducible refine (spec_l00Has.calls (row.length + 1) Ar cr row (j : Int) _ _ (Kd.R_reads' (Kd.R_below RQ0.out hHeld)).2.2 (Kd.R_reads' RQ0.out).2.1 HH.out).mono ?_
          rintro e wz ⟨rfl, hd5⟩
          refine ⟨_, rfl, ?_⟩
          have hS_ : Below wq.heap.size wq wz := by obtain ⟨nd, rfl⟩ := hd5; exact pw_below_drewN hHeld nd
          clear hd5 hHeld
          refine hK.out _ _ hS_ (fun hHeld => ?_)
          clear hK K hS_
          refine norm_ (a' := ?_) ?_ ?_
          rotate_left
          · show Act.put _ (some 100) _ = _
            simp only [Act.put, List.setIfInBounds_toArray, List.set_cons_zero, List.set_cons_succ, i64_w, i32_w]
            rfl
          refine pure_ (i := 3) (N := some 101) (v := ?_) (a' := ?_) #[true, true, true, true, false, false, false, false, false, false, false, false, false, false, false, false, false, false, false, false, false, false, false, false, false, false, false, false, false] rfl rfl (by kernel_rfl) (fun _ _ _ h => h) (Or.inl ⟨by rfl, ?_⟩) ?_ ?_
          rotate_left
          · intro w'
            go_simp
            with_reducible rfl
          rotate_left
          · simp only [Act.put, List.setIfInBounds_toArray, List.set_cons_zero, List.set_cons_succ, i64_w, i32_w]
            rfl
          refine pure_ (i := 4) (N := some 102) (v := ?_) (a' := ?_) #[true, true, true, true, true, false, false, false, false, false, false, false, false, false, false, false, false, false, false, false, false, false, false, false, false, false, false, false, false] rfl rfl (by kernel_rfl) (fun _ _ _ h => h) (Or.inl ⟨by rfl, ?_⟩) ?_ ?_
          rotate_left
          · intro w'
            go_simp
            with_reducible rfl
          rotate_left
          · simp only [Act.put, List.setIfInBounds_toArray, List.set_cons_zero, List.set_cons_succ, i64_w, i32_w]
            rfl
          refine pure_ (i := 5) (N := some 103) (v := undef) (a' := ?_) #[true, true, true, true, true, true, false, false, false, false, false, false, false, false, false, false, false, false, false, false, false, false, false, false, false, false, false, false, false] rfl rfl (by kernel_rfl) (fun _ _ _ h => h) (Or.inr ⟨by rfl, rfl⟩) ?_ ?_
          rotate_left
          · simp only [Act.put, List.setIfInBounds_toArray, List.set_cons_zero, List.set_cons_succ, i64_w, i32_w]
            rfl
          refine pure_ (i := 6) (N := some 104) (v := undef) (a' := ?_) #[true, true, true, true, true, true, true, false, false, false, false, false, false, false, false, false, false, false, false, false, false, false, false, false, false, false, false, false, false] rfl rfl (by kernel_rfl) (fun _ _ _ h => h) (Or.inr ⟨by rfl, rfl⟩) ?_ ?_
          rotate_left
          · simp only [Act.put, List.setIfInBounds_toArray, List.set_cons_zero, List.set_cons_succ, i64_w, i32_w]
            rfl
          refine pure_ (i := 7) (N := some 105) (v := undef) (a' := ?_) #[true, true, true, true, true, true, true, true, false, false, false, false, false, false, false, false, false, false, false, false, false, false, false, false, false, false, false, false, false] rfl rfl (by kernel_rfl) (fun _ _ _ h => h) (Or.inr ⟨by rfl, rfl⟩) ?_ ?_
          rotate_left
          · simp only [Act.put, List.setIfInBounds_toArray, List.set_cons_zero, List.set_cons_succ, i64_w, i32_w]
            rfl
          refine pure_ (i := 8) (N := some 106) (v := undef) (a' := ?_) #[true, true, true, true, true, true, true, true, true, false, false, false, false, false, false, false, false, false, false, false, false, false, false, false, false, false, false, false, false] rfl rfl (by kernel_rfl) (fun _ _ _ h => h) (Or.inr ⟨by rfl, rfl⟩) ?_ ?_
          rotate_left
          · simp only [Act.put, List.setIfInBounds_toArray, List.set_cons_zero, List.set_cons_succ, i64_w, i32_w]
            rfl
          refine pure_ (i := 9) (N := some 107) (v := undef) (a' := ?_) #[true, true, true, true, true, true, true, true, true, true, false, false, false, false, false, false, false, false, false, false, false, false, false, false, false, false, false, false, false] rfl rfl (by kernel_rfl) (fun _ _ _ h => h) (Or.inr ⟨by rfl, rfl⟩) ?_ ?_
          rotate_left
          · simp only [Act.put, List.setIfInBounds_toArray, List.set_cons_zero, List.set_cons_succ, i64_w, i32_w]
            rfl
          refine pure_ (i := 10) (N := some 108) (v := undef) (a' := ?_) #[true, true, true, true, true, true, true, true, true, true, true, false, false, false, false, false, false, false, false, false, false, false, false, false, false, false, false, false, false] rfl rfl (by kernel_rfl) (fun _ _ _ h => h) (Or.inr ⟨by rfl, rfl⟩) ?_ ?_
          rotate_left
          · simp only [Act.put, List.setIfInBounds_toArray, List.set_cons_zero, List.set_cons_succ, i64_w, i32_w]
            rfl
          refine pure_ (i := 11) (N := some 109) (v := undef) (a' := ?_) #[true, true, true, true, true, true, true, true, true, true, true, true, false, false, false, false, false, false, false, false, false, false, false, false, false, false, false, false, false] rfl rfl (by kernel_rfl) (fun _ _ _ h => h) (Or.inr ⟨by rfl, rfl⟩) ?_ ?_
          rotate_left
          · simp only [Act.put, List.setIfInBounds_toArray, List.set_cons_zero, List.set_cons_succ, i64_w, i32_w]
            rfl
          refine pure_ (i := 12) (N := some 110) (v := undef) (a' := ?_) #[true, true, true, true, true, true, true, true, true, true, true, true, true, false, false, false, false, false, false, false, false, false, false, false, false, false, false, false, false] rfl rfl (by kernel_rfl) (fun _ _ _ h => h) (Or.inr ⟨by rfl, rfl⟩) ?_ ?_
          rotate_left
          · simp only [Act.put, List.setIfInBounds_toArray, List.set_cons_zero, List.set_cons_succ, i64_w, i32_w]
            rfl
          refine pure_ (i := 13) (N := some 111) (v := undef) (a' := ?_) #[true, true, true, true, true, true, true, true, true, true, true, true, true, true, false, false, false, false, false, false, false, false, false, false, false, false, false, false, false] rfl rfl (by kernel_rfl) (fun _ _ _ h => h) (Or.inr ⟨by rfl, rfl⟩) ?_ ?_
          rotate_left
          · simp only [Act.put, List.setIfInBounds_toArray, List.set_cons_zero, List.set_cons_succ, i64_w, i32_w]
            rfl
          refine pure_ (i := 14) (N := some 112) (v := undef) (a' := ?_) #[true, true, true, true, true, true, true, true, true, true, true, true, true, true, true, false, false, false, false, false, false, false, false, false, false, false, false, false, false] rfl rfl (by kernel_rfl) (fun _ _ _ h => h) (Or.inr ⟨by rfl, rfl⟩) ?_ ?_
          rotate_left
          · simp only [Act.put, List.setIfInBounds_toArray, List.set_cons_zero, List.set_cons_succ, i64_w, i32_w]
            rfl
          refine pure_ (i := 15) (N := some 113) (v := undef) (a' := ?_) #[true, true, true, true, true, true, true, true, true, true, true, true, true, true, true, true, false, false, false, false, false, false, false, false, false, false, false, false, false] rfl rfl (by kernel_rfl) (fun _ _ _ h => h) (Or.inr ⟨by rfl, rfl⟩) ?_ ?_
          rotate_left
          · simp only [Act.put, List.setIfInBounds_toArray, List.set_cons_zero, List.set_cons_succ, i64_w, i32_w]
            rfl
          refine pure_ (i := 16) (N := some 114) (v := undef) (a' := ?_) #[true, true, true, true, true, true, true, true, true, true, true, true, true, true, true, true, true, false, false, false, false, false, false, false, false, false, false, false, false] rfl rfl (by kernel_rfl) (fun _ _ _ h => h) (Or.inr ⟨by rfl, rfl⟩) ?_ ?_
          rotate_left
          · simp only [Act.put, List.setIfInBounds_toArray, List.set_cons_zero, List.set_cons_succ, i64_w, i32_w]
            rfl
          refine pure_ (i := 17) (N := some 115) (v := undef) (a' := ?_) #[true, true, true, true, true, true, true, true, true, true, true, true, true, true, true, true, true, true, false, false, false, false, false, false, false, false, false, false, false] rfl rfl (by kernel_rfl) (fun _ _ _ h => h) (Or.inr ⟨by rfl, rfl⟩) ?_ ?_
          rotate_left
          · simp only [Act.put, List.setIfInBounds_toArray, List.set_cons_zero, List.set_cons_succ, i64_w, i32_w]
            rfl
          refine pure_ (i := 18) (N := some 116) (v := undef) (a' := ?_) #[true, true, true, true, true, true, true, true, true, true, true, true, true, true, true, true, true, true, true, false, false, false, false, false, false, false, false, false, false] rfl rfl (by kernel_rfl) (fun _ _ _ h => h) (Or.inr ⟨by rfl, rfl⟩) ?_ ?_
          rotate_left
          · simp only [Act.put, List.setIfInBounds_toArray, List.set_cons_zero, List.set_cons_succ, i64_w, i32_w]
            rfl
          refine pure_ (i := 19) (N := some 117) (v := undef) (a' := ?_) #[true, true, true, true, true, true, true, true, true, true, true, true, true, true, true, true, true, true, true, true, false, false, false, false, false, false, false, false, false] rfl rfl (by kernel_rfl) (fun _ _ _ h => h) (Or.inr ⟨by rfl, rfl⟩) ?_ ?_
          rotate_left
          · simp only [Act.put, List.setIfInBounds_toArray, List.set_cons_zero, List.set_cons_succ, i64_w, i32_w]
            rfl
          refine pure_ (i := 20) (N := some 118) (v := undef) (a' := ?_) #[true, true, true, true, true, true, true, true, true, true, true, true, true, true, true, true, true, true, true, true, true, false, false, false, false, false, false, false, false] rfl rfl (by kernel_rfl) (fun _ _ _ h => h) (Or.inr ⟨by rfl, rfl⟩) ?_ ?_
          rotate_left
          · simp only [Act.put, List.setIfInBounds_toArray, List.set_cons_zero, List.set_cons_succ, i64_w, i32_w]
            rfl
          refine pure_ (i := 21) (N := some 119) (v := undef) (a' := ?_) #[true, true, true, true, true, true, true, true, true, true, true, true, true, true, true, true, true, true, true, true, true, true, false, false, false, false, false, false, false] rfl rfl (by kernel_rfl) (fun _ _ _ h => h) (Or.inr ⟨by rfl, rfl⟩) ?_ ?_
          rotate_left
          · simp only [Act.put, List.setIfInBounds_toArray, List.set_cons_zero, List.set_cons_succ, i64_w, i32_w]
            rfl
          refine pure_ (i := 22) (N := some 120) (v := undef) (a' := ?_) #[true, true, true, true, true, true, true, true, true, true, true, true, true, true, true, true, true, true, true, true, true, true, true, false, false, false, false, false, false] rfl rfl (by kernel_rfl) (fun _ _ _ h => h) (Or.inr ⟨by rfl, rfl⟩) ?_ ?_
          rotate_left
          · simp only [Act.put, List.setIfInBounds_toArray, List.set_cons_zero, List.set_cons_succ, i64_w, i32_w]
            rfl
          refine pure_ (i := 23) (N := some 121) (v := undef) (a' := ?_) #[true, true, true, true, true, true, true, true, true, true, true, true, true, true, true, true, true, true, true, true, true, true, true, true, false, false, false, false, false] rfl rfl (by kernel_rfl) (fun _ _ _ h => h) (Or.inr ⟨by rfl, rfl⟩) ?_ ?_
          rotate_left
          · simp only [Act.put, List.setIfInBounds_toArray, List.set_cons_zero, List.set_cons_succ, i64_w, i32_w]
            rfl
          refine pure_ (i := 24) (N := some 122) (v := undef) (a' := ?_) #[true, true, true, true, true, true, true, true, true, true, true, true, true, true, true, true, true, true, true, true, true, true, true, true, true, false, false, false, false] rfl rfl (by kernel_rfl) (fun _ _ _ h => h) (Or.inr ⟨by rfl, rfl⟩) ?_ ?_
          rotate_left
          · simp only [Act.put, List.setIfInBounds_toArray, List.set_cons_zero, List.set_cons_succ, i64_w, i32_w]
            rfl
          refine pure_ (i := 25) (N := some 123) (v := undef) (a' := ?_) #[true, true, true, true, true, true, true, true, true, true, true, true, true, true, true, true, true, true, true, true, true, true, true, true, true, true, false, false, false] rfl rfl (by kernel_rfl) (fun _ _ _ h => h) (Or.inr ⟨by rfl, rfl⟩) ?_ ?_
          rotate_left
          · simp only [Act.put, List.setIfInBounds_toArray, List.set_cons_zero, List.set_cons_succ, i64_w, i32_w]
            rfl
          refine pure_ (i := 26) (N := some 124) (v := undef) (a' := ?_) #[true, true, true, true, true, true, true, true, true, true, true, true, true, true, true, true, true, true, true, true, true, true, true, true, true, true, true, false, false] rfl rfl (by kernel_rfl) (fun _ _ _ h => h) (Or.inr ⟨by rfl, rfl⟩) ?_ ?_
          rotate_left
          · simp only [Act.put, List.setIfInBounds_toArray, List.set_cons_zero, List.set_cons_succ, i64_w, i32_w]
            rfl
          refine pure_ (i := 27) (N := some 125) (v := undef) (a' := ?_) #[true, true, true, true, true, true, true, true, true, true, true, true, true, true, true, true, true, true, true, true, true, true, true, true, true, true, true, true, false] rfl rfl (by kernel_rfl) (fun _ _ _ h => h) (Or.inr ⟨by rfl, rfl⟩) ?_ ?_
          rotate_left
          · simp only [Act.put, List.setIfInBounds_toArray, List.set_cons_zero, List.set_cons_succ, i64_w, i32_w]
            rfl
          refine pure_ (i := 28) (N := some 126) (v := ?_) (a' := ?_) #[true, true, true, true, true, true, true, true, true, true, true, true, true, true, true, true, true, true, true, true, true, true, true, true, true, true, true, true, true] rfl rfl (by kernel_rfl) (fun _ _ _ h => h) (Or.inl ⟨by rfl, ?_⟩) ?_ ?_
          rotate_left
          · intro w'
            go_simp
            with_reducible rfl
          rotate_left
          · simp only [Act.put, List.setIfInBounds_toArray, List.set_cons_zero, List.set_cons_succ, i64_w, i32_w]
            rfl
          refine done_ (by kernel_rfl) ?_
          go_wp2
          go_roundw
          case measure => simp only [intOf]; omega
          case rel => exact ⟨j + 1, vj, by omega, by go_num, Lib.hid (IQ0.out.step hHeld), Lib.hid (Kd.R_below RQ0.out hHeld), Lib.hid (by rw [ES.out]; exact Kd.R_below BQ0.out hHeld), Lib.hid (grown_below GQ0.out hHeld)⟩
        | false =>
          have EG := Lib.hid (show goesB l row (j : Int) = true by unfold goesB; rw [hh, decide_eq_true H00.out]; rfl)
          have ES := Lib.hid (show longAt l d row best (j + 1) = longGo l d (row ++ [(j : Int)]) (longAt l d row best j) by rw [longAt_step, EG.out]; rfl)
          have HLT2 := Lib.hid (show leftN l.length (row ++ [(j : Int)]) < d by have h1 := leftN_less hjl (goesB_has EG.out); have h2 := HLT.out; omega)
          have HLEN2 := Lib.hid (show (row ++ [(j : Int)]).length + d ≤ 9 by have := HLEN.out; rw [List.length_append, List.length_singleton]; omega)
          have HSZ2 := Lib.hid (show (s ++ (rd_T44 l (j : Int)).f0).size + 20 * d ≤ 200 by have h1 := HSZ.out; have h2 := HSM.out.2 (j : Int) HN.out; rw [ByteArray.size_append]; omega)
          have HALL2 := Lib.hid (row_all hjl HALL.out)
          have HH := Lib.hid ((spec_l00Has.val row (j : Int) (by omega)).trans (congrArg some hh))
          clear hh
          go_wp2
          refine start_ (n := 29) (S := fun w' => Below (wr).drew.heap.size (wr).drew w') (ds := []) #[false, false, false, false, false, false, false, false, false, false, false, false, false, false, false, false, false, false, false, false, false, false, false, false, false, false, false, false, false] (by kernel_rfl) rfl rfl (Below.refl _ _) (fun hHeld => ?_)
          have IQ0 := Lib.hid (IV.out.step (below_drew1 (Below.refl wr.heap.size wr)))
          have RQ0 := Lib.hid (Kd.R_below RV.out (below_drew1 (Below.refl wr.heap.size wr)))
          have BQ0 := Lib.hid (Kd.R_below BV.out (below_drew1 (Below.refl wr.heap.size wr)))
          have GQ0 := Lib.hid (grown_below GV.out (below_drew1 (Below.refl wr.heap.size wr)))
          clear IV RV BV GV
          generalize wr.drew = wq at IQ0 RQ0 BQ0 GQ0 hHeld ⊢
          have c0 := IQ0.out.c0
          obtain ⟨adk, ek, hk0, hk1, hk2⟩ := at_T44 (Kd.C_below HR.out IQ0.out.b) (j : Int) (by omega) (by omega)
          cases ek
          simp only [Int.toNat_natCast] at hk0 hk1 hk2
          refine pure_ (i := 0) (N := some 98) (v := ?_) (a' := ?_) #[true, false, false, false, false, false, false, false, false, false, false, false, false, false, false, false, false, false, false, false, false, false, false, false, false, false, false, false, false] rfl rfl (by kernel_rfl) (fun _ _ _ h => h) (Or.inl ⟨by rfl, ?_⟩) ?_ ?_
          rotate_left
          · intro w'
            go_simp
            with_reducible rfl
          rotate_left
          · simp only [Act.put, List.setIfInBounds_toArray, List.set_cons_zero, List.set_cons_succ, i64_w, i32_w]
            rfl
          refine pure_ (i := 1) (N := some 99) (v := ?_) (a' := ?_) #[true, true, false, false, false, false, false, false, false, false, false, false, false, false, false, false, false, false, false, false, false, false, false, false, false, false, false, false, false] rfl rfl (by kernel_rfl) (fun _ _ _ h => h) (Or.inl ⟨by rfl, ?_⟩) ?_ ?_
          rotate_left
          · intro w'
            go_simp
            with_reducible rfl
          rotate_left
          · simp only [Act.put, List.setIfInBounds_toArray, List.set_cons_zero, List.set_cons_succ, i64_w, i32_w]
            rfl
          refine one_ (i := 2) (N := some 100) #[true, true, true, false, false, false, false, false, false, false, false, false, false, false, false, false, false, false, false, false, false, false, false, false, false, false, false, false, false] rfl rfl (by kernel_rfl) (by decide) (fun K hK => ?_)
          refine goes_ Tryd.func23 (by kernel_rfl) rfl #[.slice Ar row.length cr, .int .i64 j] (by rfl) rfl rfl (by (try simp only [List.map_toArray, List.map_cons, List.map_nil]); first | done | rfl | (simp only [List.length_drop, List.length_take]; rfl)) ?_
          with_reducible refine (spec_l00Has.calls (row.length + 1) Ar cr row (j : Int) _ _ (Kd.R_reads' (Kd.R_below RQ0.out hHeld)).2.2 (Kd.R_reads' RQ0.out).2.1 HH.out).mono ?_
          rintro e wz ⟨rfl, hd5⟩
          refine ⟨_, rfl, ?_⟩
          have hS_ : Below wq.heap.size wq wz := by obtain ⟨nd, rfl⟩ := hd5; exact pw_below_drewN hHeld nd
          clear hd5 hHeld
          refine hK.out _ _ hS_ (fun hHeld => ?_)
          clear hK K hS_
          refine norm_ (a' := ?_) ?_ ?_
          rotate_left
          · show Act.put _ (some 100) _ = _
            simp only [Act.put, List.setIfInBounds_toArray, List.set_cons_zero, List.set_cons_succ, i64_w, i32_w]
            rfl
          refine pure_ (i := 3) (N := some 101) (v := ?_) (a' := ?_) #[true, true, true, true, false, false, false, false, false, false, false, false, false, false, false, false, false, false, false, false, false, false, false, false, false, false, false, false, false] rfl rfl (by kernel_rfl) (fun _ _ _ h => h) (Or.inl ⟨by rfl, ?_⟩) ?_ ?_
          rotate_left
          · intro w'
            go_simp
            with_reducible rfl
          rotate_left
          · simp only [Act.put, List.setIfInBounds_toArray, List.set_cons_zero, List.set_cons_succ, i64_w, i32_w]
            rfl
          refine pure_ (i := 4) (N := some 102) (v := ?_) (a' := ?_) #[true, true, true, true, true, false, false, false, false, false, false, false, false, false, false, false, false, false, false, false, false, false, false, false, false, false, false, false, false] rfl rfl (by kernel_rfl) (fun _ _ _ h => h) (Or.inl ⟨by rfl, ?_⟩) ?_ ?_
          rotate_left
          · intro w'
            go_simp
            with_reducible rfl
          rotate_left
          · simp only [Act.put, List.setIfInBounds_toArray, List.set_cons_zero, List.set_cons_succ, i64_w, i32_w]
            rfl
          refine pure_ (i := 5) (N := some 103) (v := ?_) (a' := ?_) #[true, true, true, true, true, true, false, false, false, false, false, false, false, false, false, false, false, false, false, false, false, false, false, false, false, false, false, false, false] rfl rfl (by kernel_rfl) (fun _ _ _ h => h) (Or.inl ⟨by rfl, ?_⟩) ?_ ?_
          rotate_left
          · intro w'
            go_simp
            with_reducible rfl
          rotate_left
          · simp only [Act.put, List.setIfInBounds_toArray, List.set_cons_zero, List.set_cons_succ, i64_w, i32_w]
            rfl
          refine pure_ (i := 6) (N := some 104) (v := ?_) (a' := ?_) #[true, true, true, true, true, true, true, false, false, false, false, false, false, false, false, false, false, false, false, false, false, false, false, false, false, false, false, false, false] rfl rfl (by kernel_rfl) (fun _ _ _ h => h) (Or.inl ⟨by rfl, ?_⟩) ?_ ?_
          rotate_left
          · intro w'
            go_simp
            with_reducible rfl
          rotate_left
          · simp only [Act.put, List.setIfInBounds_toArray, List.set_cons_zero, List.set_cons_succ, i64_w, i32_w]
            rfl
          refine pure_ (i := 7) (N := some 105) (v := ?_) (a' := ?_) #[true, true, true, true, true, true, true, true, false, false, false, false, false, false, false, false, false, false, false, false, false, false, false, false, false, false, false, false, false] rfl rfl (by kernel_rfl) (fun _ _ _ h => h) (Or.inl ⟨by rfl, ?_⟩) ?_ ?_
          rotate_left
          · intro w'
            go_simp
            with_reducible rfl
          rotate_left
          · simp only [Act.put, List.setIfInBounds_toArray, List.set_cons_zero, List.set_cons_succ, i64_w, i32_w]
            rfl
          refine pure_ (i := 8) (N := some 106) (v := undef) (a' := ?_) #[true, true, true, true, true, true, true, true, true, false, false, false, false, false, false, false, false, false, false, false, false, false, false, false, false, false, false, false, false] rfl rfl (by kernel_rfl) (fun _ _ _ h => h) (Or.inr ⟨by rfl, rfl⟩) ?_ ?_
          rotate_left
          · simp only [Act.put, List.setIfInBounds_toArray, List.set_cons_zero, List.set_cons_succ, i64_w, i32_w]
            rfl
          refine pure_ (i := 9) (N := some 107) (v := undef) (a' := ?_) #[true, true, true, true, true, true, true, true, true, true, false, false, false, false, false, false, false, false, false, false, false, false, false, false, false, false, false, false, false] rfl rfl (by kernel_rfl) (fun _ _ _ h => h) (Or.inr ⟨by rfl, rfl⟩) ?_ ?_
          rotate_left
          · simp only [Act.put, List.setIfInBounds_toArray, List.set_cons_zero, List.set_cons_succ, i64_w, i32_w]
            rfl
          refine pure_ (i := 10) (N := some 108) (v := undef) (a' := ?_) #[true, true, true, true, true, true, true, true, true, true, true, false, false, false, false, false, false, false, false, false, false, false, false, false, false, false, false, false, false] rfl rfl (by kernel_rfl) (fun _ _ _ h => h) (Or.inr ⟨by rfl, rfl⟩) ?_ ?_
          rotate_left
          · simp only [Act.put, List.setIfInBounds_toArray, List.set_cons_zero, List.set_cons_succ, i64_w, i32_w]
            rfl
          refine pure_ (i := 11) (N := some 109) (v := undef) (a' := ?_) #[true, true, true, true, true, true, true, true, true, true, true, true, false, false, false, false, false, false, false, false, false, false, false, false, false, false, false, false, false] rfl rfl (by kernel_rfl) (fun _ _ _ h => h) (Or.inr ⟨by rfl, rfl⟩) ?_ ?_
          rotate_left
          · simp only [Act.put, List.setIfInBounds_toArray, List.set_cons_zero, List.set_cons_succ, i64_w, i32_w]
            rfl
          refine pure_ (i := 12) (N := some 110) (v := undef) (a' := ?_) #[true, true, true, true, true, true, true, true, true, true, true, true, true, false, false, false, false, false, false, false, false, false, false, false, false, false, false, false, false] rfl rfl (by kernel_rfl) (fun _ _ _ h => h) (Or.inr ⟨by rfl, rfl⟩) ?_ ?_
          rotate_left
          · simp only [Act.put, List.setIfInBounds_toArray, List.set_cons_zero, List.set_cons_succ, i64_w, i32_w]
            rfl
          refine pure_ (i := 13) (N := some 111) (v := undef) (a' := ?_) #[true, true, true, true, true, true, true, true, true, true, true, true, true, true, false, false, false, false, false, false, false, false, false, false, false, false, false, false, false] rfl rfl (by kernel_rfl) (fun _ _ _ h => h) (Or.inr ⟨by rfl, rfl⟩) ?_ ?_
          rotate_left
          · simp only [Act.put, List.setIfInBounds_toArray, List.set_cons_zero, List.set_cons_succ, i64_w, i32_w]
            rfl
          refine pure_ (i := 14) (N := some 112) (v := undef) (a' := ?_) #[true, true, true, true, true, true, true, true, true, true, true, true, true, true, true, false, false, false, false, false, false, false, false, false, false, false, false, false, false] rfl rfl (by kernel_rfl) (fun _ _ _ h => h) (Or.inr ⟨by rfl, rfl⟩) ?_ ?_
          rotate_left
          · simp only [Act.put, List.setIfInBounds_toArray, List.set_cons_zero, List.set_cons_succ, i64_w, i32_w]
            rfl
          refine pure_ (i := 15) (N := some 113) (v := undef) (a' := ?_) #[true, true, true, true, true, true, true, true, true, true, true, true, true, true, true, true, false, false, false, false, false, false, false, false, false, false, false, false, false] rfl rfl (by kernel_rfl) (fun _ _ _ h => h) (Or.inr ⟨by rfl, rfl⟩) ?_ ?_
          rotate_left
          · simp only [Act.put, List.setIfInBounds_toArray, List.set_cons_zero, List.set_cons_succ, i64_w, i32_w]
            rfl
          refine pure_ (i := 16) (N := some 114) (v := undef) (a' := ?_) #[true, true, true, true, true, true, true, true, true, true, true, true, true, true, true, true, true, false, false, false, false, false, false, false, false, false, false, false, false] rfl rfl (by kernel_rfl) (fun _ _ _ h => h) (Or.inr ⟨by rfl, rfl⟩) ?_ ?_
          rotate_left
          · simp only [Act.put, List.setIfInBounds_toArray, List.set_cons_zero, List.set_cons_succ, i64_w, i32_w]
            rfl
          refine pure_ (i := 17) (N := some 115) (v := undef) (a' := ?_) #[true, true, true, true, true, true, true, true, true, true, true, true, true, true, true, true, true, true, false, false, false, false, false, false, false, false, false, false, false] rfl rfl (by kernel_rfl) (fun _ _ _ h => h) (Or.inr ⟨by rfl, rfl⟩) ?_ ?_
          rotate_left
          · simp only [Act.put, List.setIfInBounds_toArray, List.set_cons_zero, List.set_cons_succ, i64_w, i32_w]
            rfl
          refine pure_ (i := 18) (N := some 116) (v := undef) (a' := ?_) #[true, true, true, true, true, true, true, true, true, true, true, true, true, true, true, true, true, true, true, false, false, false, false, false, false, false, false, false, false] rfl rfl (by kernel_rfl) (fun _ _ _ h => h) (Or.inr ⟨by rfl, rfl⟩) ?_ ?_
          rotate_left
          · simp only [Act.put, List.setIfInBounds_toArray, List.set_cons_zero, List.set_cons_succ, i64_w, i32_w]
            rfl
          refine pure_ (i := 19) (N := some 117) (v := undef) (a' := ?_) #[true, true, true, true, true, true, true, true, true, true, true, true, true, true, true, true, true, true, true, true, false, false, false, false, false, false, false, false, false] rfl rfl (by kernel_rfl) (fun _ _ _ h => h) (Or.inr ⟨by rfl, rfl⟩) ?_ ?_
          rotate_left
          · simp only [Act.put, List.setIfInBounds_toArray, List.set_cons_zero, List.set_cons_succ, i64_w, i32_w]
            rfl
          refine pure_ (i := 20) (N := some 118) (v := undef) (a' := ?_) #[true, true, true, true, true, true, true, true, true, true, true, true, true, true, true, true, true, true, true, true, true, false, false, false, false, false, false, false, false] rfl rfl (by kernel_rfl) (fun _ _ _ h => h) (Or.inr ⟨by rfl, rfl⟩) ?_ ?_
          rotate_left
          · simp only [Act.put, List.setIfInBounds_toArray, List.set_cons_zero, List.set_cons_succ, i64_w, i32_w]
            rfl
          refine pure_ (i := 21) (N := some 119) (v := undef) (a' := ?_) #[true, true, true, true, true, true, true, true, true, true, true, true, true, true, true, true, true, true, true, true, true, true, false, false, false, false, false, false, false] rfl rfl (by kernel_rfl) (fun _ _ _ h => h) (Or.inr ⟨by rfl, rfl⟩) ?_ ?_
          rotate_left
          · simp only [Act.put, List.setIfInBounds_toArray, List.set_cons_zero, List.set_cons_succ, i64_w, i32_w]
            rfl
          refine pure_ (i := 22) (N := some 120) (v := undef) (a' := ?_) #[true, true, true, true, true, true, true, true, true, true, true, true, true, true, true, true, true, true, true, true, true, true, true, false, false, false, false, false, false] rfl rfl (by kernel_rfl) (fun _ _ _ h => h) (Or.inr ⟨by rfl, rfl⟩) ?_ ?_
          rotate_left
          · simp only [Act.put, List.setIfInBounds_toArray, List.set_cons_zero, List.set_cons_succ, i64_w, i32_w]
            rfl
          refine pure_ (i := 23) (N := some 121) (v := undef) (a' := ?_) #[true, true, true, true, true, true, true, true, true, true, true, true, true, true, true, true, true, true, true, true, true, true, true, true, false, false, false, false, false] rfl rfl (by kernel_rfl) (fun _ _ _ h => h) (Or.inr ⟨by rfl, rfl⟩) ?_ ?_
          rotate_left
          · simp only [Act.put, List.setIfInBounds_toArray, List.set_cons_zero, List.set_cons_succ, i64_w, i32_w]
            rfl
          refine pure_ (i := 24) (N := some 122) (v := undef) (a' := ?_) #[true, true, true, true, true, true, true, true, true, true, true, true, true, true, true, true, true, true, true, true, true, true, true, true, true, false, false, false, false] rfl rfl (by kernel_rfl) (fun _ _ _ h => h) (Or.inr ⟨by rfl, rfl⟩) ?_ ?_
          rotate_left
          · simp only [Act.put, List.setIfInBounds_toArray, List.set_cons_zero, List.set_cons_succ, i64_w, i32_w]
            rfl
          refine pure_ (i := 25) (N := some 123) (v := undef) (a' := ?_) #[true, true, true, true, true, true, true, true, true, true, true, true, true, true, true, true, true, true, true, true, true, true, true, true, true, true, false, false, false] rfl rfl (by kernel_rfl) (fun _ _ _ h => h) (Or.inr ⟨by rfl, rfl⟩) ?_ ?_
          rotate_left
          · simp only [Act.put, List.setIfInBounds_toArray, List.set_cons_zero, List.set_cons_succ, i64_w, i32_w]
            rfl
          refine pure_ (i := 26) (N := some 124) (v := undef) (a' := ?_) #[true, true, true, true, true, true, true, true, true, true, true, true, true, true, true, true, true, true, true, true, true, true, true, true, true, true, true, false, false] rfl rfl (by kernel_rfl) (fun _ _ _ h => h) (Or.inr ⟨by rfl, rfl⟩) ?_ ?_
          rotate_left
          · simp only [Act.put, List.setIfInBounds_toArray, List.set_cons_zero, List.set_cons_succ, i64_w, i32_w]
            rfl
          refine pure_ (i := 27) (N := some 125) (v := ?_) (a' := ?_) #[true, true, true, true, true, true, true, true, true, true, true, true, true, true, true, true, true, true, true, true, true, true, true, true, true, true, true, true, false] rfl rfl (by kernel_rfl) (fun _ _ _ h => h) (Or.inl ⟨by rfl, ?_⟩) ?_ ?_
          rotate_left
          · intro w'
            go_simp
            with_reducible rfl
          rotate_left
          · simp only [Act.put, List.setIfInBounds_toArray, List.set_cons_zero, List.set_cons_succ, i64_w, i32_w]
            rfl
          refine pure_ (i := 28) (N := some 126) (v := ?_) (a' := ?_) #[true, true, true, true, true, true, true, true, true, true, true, true, true, true, true, true, true, true, true, true, true, true, true, true, true, true, true, true, true] rfl rfl (by kernel_rfl) (fun _ _ _ h => h) (Or.inl ⟨by rfl, ?_⟩) ?_ ?_
          rotate_left
          · intro w'
            go_simp
            with_reducible rfl
          rotate_left
          · simp only [Act.put, List.setIfInBounds_toArray, List.set_cons_zero, List.set_cons_succ, i64_w, i32_w]
            rfl
          refine done_ (by kernel_rfl) ?_
          have IH1 := Lib.hid (IQ0.out.step hHeld)
          have RH1 := Lib.hid (Kd.R_below RQ0.out hHeld)
          have BH1 := Lib.hid (Kd.R_below BQ0.out hHeld)
          have GH1 := Lib.hid (grown_below GQ0.out hHeld)
          clear IQ0 RQ0 BQ0 GQ0 hHeld c0 hk0 hk1 hk2
          go_wp2
          refine start_ (n := 18) (S := fun w' => Below (wz).drew.heap.size (wz).drew w') (ds := [17]) #[false, false, false, false, false, false, false, false, false, false, false, false, false, false, false, false, false, false] (by kernel_rfl) rfl rfl (Below.refl _ _) (fun hHeld => ?_)
          have IQ0 := Lib.hid (IH1.out.step (below_drew1 (Below.refl wz.heap.size wz)))
          have RQ0 := Lib.hid (Kd.R_below RH1.out (below_drew1 (Below.refl wz.heap.size wz)))
          have BQ0 := Lib.hid (Kd.R_below BH1.out (below_drew1 (Below.refl wz.heap.size wz)))
          have GQ0 := Lib.hid (grown_below GH1.out (below_drew1 (Below.refl wz.heap.size wz)))
          clear IH1 RH1 BH1 GH1
          generalize wz.drew = wq at IQ0 RQ0 BQ0 GQ0 hHeld ⊢
          have c0 := IQ0.out.c0
          obtain ⟨adk, ek, hk0, hk1, hk2⟩ := at_T44 (Kd.C_below HR.out IQ0.out.b) (j : Int) (by omega) (by omega)
          cases ek
          simp only [Int.toNat_natCast] at hk0 hk1 hk2
          have hcat : ¬ 9223372036854775807 < s.size + (rd_T44 l (j : Int)).f0.size := by have h1 := HSZ.out; have h2 := HSM.out.2 (j : Int) HN.out; omega
          refine pure_ (i := 0) (N := some 127) (v := ?_) (a' := ?_) #[true, false, false, false, false, false, false, false, false, false, false, false, false, false, false, false, false, false] rfl rfl (by kernel_rfl) (fun _ _ _ h => h) (Or.inl ⟨by rfl, ?_⟩) ?_ ?_
          rotate_left
          · intro w'
            go_simp
            with_reducible rfl
          rotate_left
          · simp only [Act.put, List.setIfInBounds_toArray, List.set_cons_zero, List.set_cons_succ, i64_w, i32_w]
            rfl
          refine pure_ (i := 2) (N := some 129) (v := ?_) (a' := ?_) #[true, false, true, false, false, false, false, false, false, false, false, false, false, false, false, false, false, false] rfl rfl (by kernel_rfl) (fun _ _ _ h => h) (Or.inl ⟨by rfl, ?_⟩) ?_ ?_
          rotate_left
          · intro w'
            go_simp
            with_reducible rfl
          rotate_left
          · simp only [Act.put, List.setIfInBounds_toArray, List.set_cons_zero, List.set_cons_succ, i64_w, i32_w]
            rfl
          refine pure_ (i := 4) (N := some 131) (v := ?_) (a' := ?_) #[true, false, true, false, true, false, false, false, false, false, false, false, false, false, false, false, false, false] rfl rfl (by kernel_rfl) (fun _ _ _ h => h) (Or.inl ⟨by rfl, ?_⟩) ?_ ?_
          rotate_left
          · intro w'
            go_simp
            with_reducible rfl
          rotate_left
          · simp only [Act.put, List.setIfInBounds_toArray, List.set_cons_zero, List.set_cons_succ, i64_w, i32_w]
            rfl
          refine pure_ (i := 7) (N := some 134) (v := ?_) (a' := ?_) #[true, false, true, false, true, false, false, true, false, false, false, false, false, false, false, false, false, false] rfl rfl (by kernel_rfl) (fun _ _ _ h => h) (Or.inl ⟨by rfl, ?_⟩) ?_ ?_
          rotate_left
          · intro w'
            go_simp
            with_reducible rfl
          rotate_left
          · simp only [Act.put, List.setIfInBounds_toArray, List.set_cons_zero, List.set_cons_succ, i64_w, i32_w]
            rfl
          refine pure_ (i := 8) (N := some 135) (v := ?_) (a' := ?_) #[true, false, true, false, true, false, false, true, true, false, false, false, false, false, false, false, false, false] rfl rfl (by kernel_rfl) (fun _ _ _ h => h) (Or.inl ⟨by rfl, ?_⟩) ?_ ?_
          rotate_left
          · intro w'
            go_simp
            with_reducible rfl
          rotate_left
          · simp only [Act.put, List.setIfInBounds_toArray, List.set_cons_zero, List.set_cons_succ, i64_w, i32_w]
            rfl
          refine pure_ (i := 9) (N := some 136) (v := ?_) (a' := ?_) #[true, false, true, false, true, false, false, true, true, true, false, false, false, false, false, false, false, false] rfl rfl (by kernel_rfl) (fun _ _ _ h => h) (Or.inl ⟨by rfl, ?_⟩) ?_ ?_
          rotate_left
          · intro w'
            go_simp
            with_reducible rfl
          rotate_left
          · simp only [Act.put, List.setIfInBounds_toArray, List.set_cons_zero, List.set_cons_succ, i64_w, i32_w]
            rfl
          refine pure_ (i := 10) (N := some 137) (v := ?_) (a' := ?_) #[true, false, true, false, true, false, false, true, true, true, true, false, false, false, false, false, false, false] rfl rfl (by kernel_rfl) (fun _ _ _ h => h) (Or.inl ⟨by rfl, ?_⟩) ?_ ?_
          rotate_left
          · intro w'
            go_simp
            with_reducible rfl
          rotate_left
          · simp only [Act.put, List.setIfInBounds_toArray, List.set_cons_zero, List.set_cons_succ, i64_w, i32_w]
            rfl
          refine take_ (i := 11) (N := some 138) (v := ?_) (a' := ?_) #[true, false, true, false, true, false, false, true, true, true, true, true, false, false, false, false, false, false] rfl rfl (by kernel_rfl) (fun _ _ _ h => h) (Or.inl ⟨by rfl, ?_⟩) hHeld ?_ ?_
          rotate_left
          · rintro w' hS
            have q_c0 := bcell hS c0
            have q_hk0 := bcell hS hk0
            go_simp
            with_reducible rfl
          rotate_left
          · simp only [Act.put, List.setIfInBounds_toArray, List.set_cons_zero, List.set_cons_succ, i64_w, i32_w]
            rfl
          refine pure_ (i := 12) (N := some 139) (v := ?_) (a' := ?_) #[true, false, true, false, true, false, false, true, true, true, true, true, true, false, false, false, false, false] rfl rfl (by kernel_rfl) (fun _ _ _ h => h) (Or.inl ⟨by rfl, ?_⟩) ?_ ?_
          rotate_left
          · intro w'
            go_simp
            with_reducible rfl
          rotate_left
          · simp only [Act.put, List.setIfInBounds_toArray, List.set_cons_zero, List.set_cons_succ, i64_w, i32_w]
            rfl
          refine pure_ (i := 13) (N := some 140) (v := ?_) (a' := ?_) #[true, false, true, false, true, false, false, true, true, true, true, true, true, true, false, false, false, false] rfl rfl (by kernel_rfl) (fun _ _ _ h => h) (Or.inl ⟨by rfl, ?_⟩) ?_ ?_
          rotate_left
          · intro w'
            go_simp
            with_reducible rfl
          rotate_left
          · simp only [Act.put, List.setIfInBounds_toArray, List.set_cons_zero, List.set_cons_succ, i64_w, i32_w]
            rfl
          refine pure_ (i := 14) (N := some 141) (v := ?_) (a' := ?_) #[true, false, true, false, true, false, false, true, true, true, true, true, true, true, true, false, false, false] rfl rfl (by kernel_rfl) (fun _ _ _ h => h) (Or.inl ⟨by rfl, ?_⟩) ?_ ?_
          rotate_left
          · intro w'
            go_simp
            with_reducible rfl
          rotate_left
          · simp only [Act.put, List.setIfInBounds_toArray, List.set_cons_zero, List.set_cons_succ, i64_w, i32_w]
            rfl
          refine take_ (i := 15) (N := some 142) (v := ?_) (a' := ?_) #[true, false, true, false, true, false, false, true, true, true, true, true, true, true, true, true, false, false] rfl rfl (by kernel_rfl) (fun _ _ _ h => h) (Or.inl ⟨by rfl, ?_⟩) hHeld ?_ ?_
          rotate_left
          · rintro w' hS
            have q_c0 := bcell hS c0
            have q_hk0 := bcell hS hk0
            go_simp
            with_reducible rfl
          rotate_left
          · simp only [Act.put, List.setIfInBounds_toArray, List.set_cons_zero, List.set_cons_succ, i64_w, i32_w]
            rfl
          refine pure_ (i := 16) (N := some 143) (v := ?_) (a' := ?_) #[true, false, true, false, true, false, false, true, true, true, true, true, true, true, true, true, true, false] rfl rfl (by kernel_rfl) (fun _ _ _ h => h) (Or.inl ⟨by rfl, ?_⟩) ?_ ?_
          rotate_left
          · intro w'
            go_simp
            with_reducible rfl
          rotate_left
          · simp only [Act.put, List.setIfInBounds_toArray, List.set_cons_zero, List.set_cons_succ, i64_w, i32_w]
            rfl
          refine two_ (i := 1) (j := 5) (Ni := some 128) (Nj := some 132) #[true, true, true, false, true, false, false, true, true, true, true, true, true, true, true, true, true, false] #[true, false, true, false, true, true, false, true, true, true, true, true, true, true, true, true, true, false] rfl rfl rfl rfl (by kernel_rfl) (by decide) (by decide) (fun K hK => ?_) (fun K hK => ?_)
          · skip
            refine Kd.R_lit_step (Kd.int .i64) _ 2 ?hgq1 (N := 128) ?hdq1 (xs := ([] : List Int)) (inner := []) (ok := fun _ => True) (okp := fun _ => True) ?hrq1 ?hpq1 (fun _ hk => hk) trivial (Below.refl _ _) (Nat.le_refl _) (by simp) ?_
            (case hdq1 => rfl)
            (case hgq1 => rfl)
            (case hrq1 => first | (go_simp; done) | (go_simp; rfl))
            (case hpq1 => exact (Reps.none _ _))
            intro v1 wz ho hb hg_ hnew_
            have nR1 := Lib.hid (Kd.R_lower (ok := fun k => wq.heap.size ≤ k) (Kd.R_mono (Kd.R_bound ho) (fun k hk => Nat.le_trans hHeld.size hk.2.1)) (Nat.le_trans IQ0.out.b.size hHeld.size))
            clear hg_ hnew_
            have R1 := nR1
            clear nR1 ho
            have hS_ := below_step hHeld hb
            clear hb hHeld
            refine hK.out _ _ hS_ (fun hHeld => ?_)
            clear hK K hS_
            refine norm_ (a' := ?_) ?_ ?_
            rotate_left
            · show Act.put _ (some 128) _ = _
              simp only [Act.put, List.setIfInBounds_toArray, List.set_cons_zero, List.set_cons_succ, i64_w, i32_w]
              rfl
            refine two_ (i := 3) (j := 5) (Ni := some 130) (Nj := some 132) #[true, true, true, true, true, false, false, true, true, true, true, true, true, true, true, true, true, false] #[true, true, true, false, true, true, false, true, true, true, true, true, true, true, true, true, true, false] rfl rfl rfl rfl (by kernel_rfl) (by decide) (by decide) (fun K hK => ?_) (fun K hK => ?_)
            · skip
              refine Kd.R_append_rows_step (Kd.int .i64) (w0 := w0) w0.heap.size (by rfl) (.tmp 128) (.tmp 129) 24 2 (.int .i64 0) 8 rfl Tryd.underlying24 info2' rfl (by decide) (by omega) v1 [] row _ _ _ (fun k => wq.heap.size ≤ k) (fun _ => False) rfl rfl ?aOp2 ?aRp2 (fun _ _ h => h) (fun _ h => h.elim) ?aFp2 ?aBp2 ?aSp2 ?aLp2 ?_
              (case aOp2 => exact R1.out)
              (case aRp2 => exact (Kd.R_reads' (Kd.R_below RQ0.out hHeld)).2.2)
              (case aFp2 => exact fun k hk => Nat.le_trans hHeld.size hk)
              (case aBp2 => exact below_step IQ0.out.b hHeld)
              (case aSp2 => exact (below_step IQ0.out.b hHeld).size)
              (case aLp2 => have := HLEN.out; simp; omega)
              intro v3 wz ho hb2 hg hat
              have hS_ := Below.trans hHeld (grown_append hg wq.heap.size hHeld.size (fun k hk => R1.out.1 k hk))
              have R3 := Lib.hid (show Kd.R (Kd.int .i64) 2 wz w0.heap.size (fun k => wq.heap.size ≤ k) v3 row from ho)
              clear R1
              clear ho hb2 hg hat
              refine hK.out _ _ hS_ (fun hHeld => ?_)
              clear hK K hS_
              refine norm_ (a' := ?_) ?_ ?_
              rotate_left
              · show Act.put _ (some 130) _ = _
                simp only [Act.put, List.setIfInBounds_toArray, List.set_cons_zero, List.set_cons_succ, i64_w, i32_w]
                rfl
              refine one_ (i := 5) (N := some 132) #[true, true, true, true, true, true, false, true, true, true, true, true, true, true, true, true, true, false] rfl rfl (by kernel_rfl) (by decide) (fun K hK => ?_)
              refine Kd.R_lit_step (Kd.int .i64) _ 2 ?hgq3 (N := 132) ?hdq3 (xs := ([(j : Int)] : List Int)) (inner := [.int .i64 j]) (ok := fun _ => True) (okp := fun _ => True) ?hrq3 ?hpq3 (fun _ hk => hk) trivial (Below.refl _ _) (Nat.le_refl _) (by simp) ?_
              (case hdq3 => rfl)
              (case hgq3 => rfl)
              (case hrq3 => first | (go_simp; done) | (go_simp; rfl))
              (case hpq3 => exact (Reps.one (show Kd.M (Kd.int .i64) _ _ _ (j : Int) [.int .i64 j] from rfl) (Reps.none _ _)))
              intro v5 wz ho hb hg_ hnew_
              have nRL := Lib.hid (Kd.R_lower (ok := fun k => wq.heap.size ≤ k) (Kd.R_mono (Kd.R_bound ho) (fun k hk => Nat.le_trans hHeld.size hk.2.1)) (Nat.le_trans IQ0.out.b.size hHeld.size))
              clear hg_ hnew_
              have m_R3 := Lib.hid (Kd.R_below R3.out hb)
              clear R3
              have R3 := m_R3
              clear m_R3
              have RL := nRL
              clear nRL ho
              have hS_ := below_step hHeld hb
              clear hb hHeld
              refine hK.out _ _ hS_ (fun hHeld => ?_)
              clear hK K hS_
              refine norm_ (a' := ?_) ?_ ?_
              rotate_left
              · show Act.put _ (some 132) _ = _
                simp only [Act.put, List.setIfInBounds_toArray, List.set_cons_zero, List.set_cons_succ, i64_w, i32_w]
                rfl
              refine one_ (i := 6) (N := some 133) #[true, true, true, true, true, true, true, true, true, true, true, true, true, true, true, true, true, false] rfl rfl (by kernel_rfl) (by decide) (fun K hK => ?_)
              obtain ⟨AL, cL, rfl⟩ := Kd.R_slice RL.out
              refine Kd.R_append_rows_step (Kd.int .i64) (w0 := w0) w0.heap.size (by rfl) (.tmp 130) (.tmp 132) 24 2 (.int .i64 0) 8 rfl Tryd.underlying24 info2' rfl (by decide) (by omega) v3 row [(j : Int)] _ _ _ (fun k => wq.heap.size ≤ k) (fun _ => False) rfl rfl ?aOp4 ?aRp4 (fun _ _ h => h) (fun _ h => h.elim) ?aFp4 ?aBp4 ?aSp4 ?aLp4 ?_
              (case aOp4 => exact R3.out)
              (case aRp4 => exact (Kd.R_reads' RL.out).2.2)
              (case aFp4 => exact fun k hk => Nat.le_trans hHeld.size hk)
              (case aBp4 => exact below_step IQ0.out.b hHeld)
              (case aSp4 => exact (below_step IQ0.out.b hHeld).size)
              (case aLp4 => have := HLEN.out; simp; omega)
              intro v6 wz ho hb2 hg hat
              have hS_ := Below.trans hHeld (grown_append hg wq.heap.size hHeld.size (fun k hk => R3.out.1 k hk))
              have R6 := Lib.hid ho
              clear R3 RL
              clear ho hb2 hg hat
              refine hK.out _ _ hS_ (fun hHeld => ?_)
              clear hK K hS_
              refine norm_ (a' := ?_) ?_ ?_
              rotate_left
              · show Act.put _ (some 133) _ = _
                simp only [Act.put, List.setIfInBounds_toArray, List.set_cons_zero, List.set_cons_succ, i64_w, i32_w]
                rfl
              refine last_ (i := 17) (N := some 144) #[true, true, true, true, true, true, true, true, true, true, true, true, true, true, true, true, true, true] rfl rfl (by kernel_rfl) (by decide) (fun K hK => ?_)
              refine goes_ Tryd.func15 (by kernel_rfl) rfl #[.pointer (some ⟨gr, 0, none⟩), v6, .string (s ++ (rd_T44 l (j : Int)).f0)] (by rfl) rfl rfl (by (try simp only [List.map_toArray, List.map_cons, List.map_nil]); first | done | rfl | (simp only [List.length_drop, List.length_take]; rfl)) ?_
              have I6 := Lib.hid (IQ0.out.step hHeld)
              have A6 := Lib.hid (Kd.R_mono R6.out (fun k (hk : wq.heap.size ≤ k) => show k ≠ gr from by have h1 := blk_lt IQ0.out.k; omega))
              have B6 := Lib.hid (Kd.R_below BQ0.out hHeld)
              have Q6 := Lib.hid (Kd.R_below RQ0.out hHeld)
              have G6 := Lib.hid (grown_below GQ0.out hHeld)
              with_reducible refine (IH.out (row ++ [(j : Int)]) (longAt l d row best j) v6 vj _ _ HLT2.out HLEN2.out HSZ2.out HALL2.out I6.out A6.out B6.out).mono ?_
              rintro e wz ⟨rfl, vb', hI4, hB4, hG4⟩
              refine ⟨_, rfl, ?_⟩
              have R4 := Lib.hid (row_grown2 Q6.out hG4)
              have G4 := Lib.hid (grown_trans G6.out hG4)
              refine hK.out _ _ ?_
              clear hK K
              refine norm_ (a' := ?_) ?_ ?_
              rotate_left
              · show Act.put _ (some 144) _ = _
                simp only [Act.put, List.setIfInBounds_toArray, List.set_cons_zero, List.set_cons_succ, i64_w, i32_w]
                rfl
              refine done_ (by kernel_rfl) ?_
              go_wp2
              go_roundw
              case measure => simp only [intOf]; omega
              case rel => exact ⟨j + 1, vb', by omega, by go_num, Lib.hid hI4, R4, Lib.hid (by rw [ES.out]; exact hB4), G4⟩
            · skip
              refine Kd.R_lit_step (Kd.int .i64) _ 2 ?hgq5 (N := 132) ?hdq5 (xs := ([(j : Int)] : List Int)) (inner := [.int .i64 j]) (ok := fun _ => True) (okp := fun _ => True) ?hrq5 ?hpq5 (fun _ hk => hk) trivial (Below.refl _ _) (Nat.le_refl _) (by simp) ?_
              (case hdq5 => rfl)
              (case hgq5 => rfl)
              (case hrq5 => first | (go_simp; done) | (go_simp; rfl))
              (case hpq5 => exact (Reps.one (show Kd.M (Kd.int .i64) _ _ _ (j : Int) [.int .i64 j] from rfl) (Reps.none _ _)))
              intro v5 wz ho hb hg_ hnew_
              have nRL := Lib.hid (Kd.R_lower (ok := fun k => wq.heap.size ≤ k ∧ some k ≠ v1.ownBlock) (Kd.R_mono (Kd.R_bound ho) (fun k hk => ⟨Nat.le_trans hHeld.size hk.2.1, fun e => by have h5 := ((Kd.R_bound R1.out).1 k e.symm).2.2.1; have h6 := hk.2.1; omega⟩)) (Nat.le_trans IQ0.out.b.size hHeld.size))
              clear hg_ hnew_
              have m_R1 := Lib.hid (Kd.R_below R1.out hb)
              clear R1
              have R1 := m_R1
              clear m_R1
              have RL := nRL
              clear nRL ho
              have hS_ := below_step hHeld hb
              clear hb hHeld
              refine hK.out _ _ hS_ (fun hHeld => ?_)
              clear hK K hS_
              refine norm_ (a' := ?_) ?_ ?_
              rotate_left
              · show Act.put _ (some 132) _ = _
                simp only [Act.put, List.setIfInBounds_toArray, List.set_cons_zero, List.set_cons_succ, i64_w, i32_w]
                rfl
              refine one_ (i := 3) (N := some 130) #[true, true, true, true, true, true, false, true, true, true, true, true, true, true, true, true, true, false] rfl rfl (by kernel_rfl) (by decide) (fun K hK => ?_)
              refine Kd.R_append_rows_step (Kd.int .i64) (w0 := w0) w0.heap.size (by rfl) (.tmp 128) (.tmp 129) 24 2 (.int .i64 0) 8 rfl Tryd.underlying24 info2' rfl (by decide) (by omega) v1 [] row _ _ _ (fun k => wq.heap.size ≤ k) (fun _ => False) rfl rfl ?aOp6 ?aRp6 (fun _ _ h => h) (fun _ h => h.elim) ?aFp6 ?aBp6 ?aSp6 ?aLp6 ?_
              (case aOp6 => exact R1.out)
              (case aRp6 => exact (Kd.R_reads' (Kd.R_below RQ0.out hHeld)).2.2)
              (case aFp6 => exact fun k hk => Nat.le_trans hHeld.size hk)
              (case aBp6 => exact below_step IQ0.out.b hHeld)
              (case aSp6 => exact (below_step IQ0.out.b hHeld).size)
              (case aLp6 => have := HLEN.out; simp; omega)
              intro v3 wz ho hb2 hg hat
              have hS_ := Below.trans hHeld (grown_append hg wq.heap.size hHeld.size (fun k hk => R1.out.1 k hk))
              have nRL := Lib.hid (Kd.R_mono (ok' := fun k => wq.heap.size ≤ k) (Kd.R_step RL.out (fun k hok hlt => hg.block k hlt hok.2)) (fun k hk => hk.1))
              clear RL
              have RL := nRL
              clear nRL
              have R3 := Lib.hid (show Kd.R (Kd.int .i64) 2 wz w0.heap.size (fun k => wq.heap.size ≤ k) v3 row from ho)
              clear R1
              clear ho hb2 hg hat
              refine hK.out _ _ hS_ (fun hHeld => ?_)
              clear hK K hS_
              refine norm_ (a' := ?_) ?_ ?_
              rotate_left
              · show Act.put _ (some 130) _ = _
                simp only [Act.put, List.setIfInBounds_toArray, List.set_cons_zero, List.set_cons_succ, i64_w, i32_w]
                rfl
              refine one_ (i := 6) (N := some 133) #[true, true, true, true, true, true, true, true, true, true, true, true, true, true, true, true, true, false] rfl rfl (by kernel_rfl) (by decide) (fun K hK => ?_)
              obtain ⟨AL, cL, rfl⟩ := Kd.R_slice RL.out
              refine Kd.R_append_rows_step (Kd.int .i64) (w0 := w0) w0.heap.size (by rfl) (.tmp 130) (.tmp 132) 24 2 (.int .i64 0) 8 rfl Tryd.underlying24 info2' rfl (by decide) (by omega) v3 row [(j : Int)] _ _ _ (fun k => wq.heap.size ≤ k) (fun _ => False) rfl rfl ?aOp7 ?aRp7 (fun _ _ h => h) (fun _ h => h.elim) ?aFp7 ?aBp7 ?aSp7 ?aLp7 ?_
              (case aOp7 => exact R3.out)
              (case aRp7 => exact (Kd.R_reads' RL.out).2.2)
              (case aFp7 => exact fun k hk => Nat.le_trans hHeld.size hk)
              (case aBp7 => exact below_step IQ0.out.b hHeld)
              (case aSp7 => exact (below_step IQ0.out.b hHeld).size)
              (case aLp7 => have := HLEN.out; simp; omega)
              intro v6 wz ho hb2 hg hat
              have hS_ := Below.trans hHeld (grown_append hg wq.heap.size hHeld.size (fun k hk => R3.out.1 k hk))
              have R6 := Lib.hid ho
              clear R3 RL
              clear ho hb2 hg hat
              refine hK.out _ _ hS_ (fun hHeld => ?_)
              clear hK K hS_
              refine norm_ (a' := ?_) ?_ ?_
              rotate_left
              · show Act.put _ (some 133) _ = _
                simp only [Act.put, List.setIfInBounds_toArray, List.set_cons_zero, List.set_cons_succ, i64_w, i32_w]
                rfl
              refine last_ (i := 17) (N := some 144) #[true, true, true, true, true, true, true, true, true, true, true, true, true, true, true, true, true, true] rfl rfl (by kernel_rfl) (by decide) (fun K hK => ?_)
              refine goes_ Tryd.func15 (by kernel_rfl) rfl #[.pointer (some ⟨gr, 0, none⟩), v6, .string (s ++ (rd_T44 l (j : Int)).f0)] (by rfl) rfl rfl (by (try simp only [List.map_toArray, List.map_cons, List.map_nil]); first | done | rfl | (simp only [List.length_drop, List.length_take]; rfl)) ?_
              have I6 := Lib.hid (IQ0.out.step hHeld)
              have A6 := Lib.hid (Kd.R_mono R6.out (fun k (hk : wq.heap.size ≤ k) => show k ≠ gr from by have h1 := blk_lt IQ0.out.k; omega))
              have B6 := Lib.hid (Kd.R_below BQ0.out hHeld)
              have Q6 := Lib.hid (Kd.R_below RQ0.out hHeld)
              have G6 := Lib.hid (grown_below GQ0.out hHeld)
              with_reducible refine (IH.out (row ++ [(j : Int)]) (longAt l d row best j) v6 vj _ _ HLT2.out HLEN2.out HSZ2.out HALL2.out I6.out A6.out B6.out).mono ?_
              rintro e wz ⟨rfl, vb', hI4, hB4, hG4⟩
              refine ⟨_, rfl, ?_⟩
              have R4 := Lib.hid (row_grown2 Q6.out hG4)
              have G4 := Lib.hid (grown_trans G6.out hG4)
              refine hK.out _ _ ?_
              clear hK K
              refine norm_ (a' := ?_) ?_ ?_
              rotate_left
              · show Act.put _ (some 144) _ = _
                simp only [Act.put, List.setIfInBounds_toArray, List.set_cons_zero, List.set_cons_succ, i64_w, i32_w]
                rfl
              refine done_ (by kernel_rfl) ?_
              go_wp2
              go_roundw
              case measure => simp only [intOf]; omega
              case rel => exact ⟨j + 1, vb', by omega, by go_num, Lib.hid hI4, R4, Lib.hid (by rw [ES.out]; exact hB4), G4⟩
          · skip
            refine Kd.R_lit_step (Kd.int .i64) _ 2 ?hgq8 (N := 132) ?hdq8 (xs := ([(j : Int)] : List Int)) (inner := [.int .i64 j]) (ok := fun _ => True) (okp := fun _ => True) ?hrq8 ?hpq8 (fun _ hk => hk) trivial (Below.refl _ _) (Nat.le_refl _) (by simp) ?_
            (case hdq8 => rfl)
            (case hgq8 => rfl)
            (case hrq8 => first | (go_simp; done) | (go_simp; rfl))
            (case hpq8 => exact (Reps.one (show Kd.M (Kd.int .i64) _ _ _ (j : Int) [.int .i64 j] from rfl) (Reps.none _ _)))
            intro v5 wz ho hb hg_ hnew_
            have nRL := Lib.hid (Kd.R_lower (ok := fun k => wq.heap.size ≤ k) (Kd.R_mono (Kd.R_bound ho) (fun k hk => Nat.le_trans hHeld.size hk.2.1)) (Nat.le_trans IQ0.out.b.size hHeld.size))
            clear hg_ hnew_
            have RL := nRL
            clear nRL ho
            have hS_ := below_step hHeld hb
            clear hb hHeld
            refine hK.out _ _ hS_ (fun hHeld => ?_)
            clear hK K hS_
            refine norm_ (a' := ?_) ?_ ?_
            rotate_left
            · show Act.put _ (some 132) _ = _
              simp only [Act.put, List.setIfInBounds_toArray, List.set_cons_zero, List.set_cons_succ, i64_w, i32_w]
              rfl
            refine one_ (i := 1) (N := some 128) #[true, true, true, false, true, true, false, true, true, true, true, true, true, true, true, true, true, false] rfl rfl (by kernel_rfl) (by decide) (fun K hK => ?_)
            refine Kd.R_lit_step (Kd.int .i64) _ 2 ?hgq9 (N := 128) ?hdq9 (xs := ([] : List Int)) (inner := []) (ok := fun _ => True) (okp := fun _ => True) ?hrq9 ?hpq9 (fun _ hk => hk) trivial (Below.refl _ _) (Nat.le_refl _) (by simp) ?_
            (case hdq9 => rfl)
            (case hgq9 => rfl)
            (case hrq9 => first | (go_simp; done) | (go_simp; rfl))
            (case hpq9 => exact (Reps.none _ _))
            intro v1 wz ho hb hg_ hnew_
            have nR1 := Lib.hid (Kd.R_lower (ok := fun k => wq.heap.size ≤ k) (Kd.R_mono (Kd.R_bound ho) (fun k hk => Nat.le_trans hHeld.size hk.2.1)) (Nat.le_trans IQ0.out.b.size hHeld.size))
            have uRL := Lib.hid (Kd.R_mono (ok' := fun k => wq.heap.size ≤ k ∧ some k ≠ v1.ownBlock) (Kd.R_bound RL.out) (fun k hk => ⟨hk.1, fun e => by obtain ⟨b5, h5, h6⟩ := hnew_; rw [h5] at e; have h7 := Option.some.inj e; have h8 := hk.2.2.1; omega⟩))
            clear RL
            have RL := uRL
            clear uRL
            clear hg_ hnew_
            have m_RL := Lib.hid (Kd.R_below RL.out hb)
            clear RL
            have RL := m_RL
            clear m_RL
            have R1 := nR1
            clear nR1 ho
            have hS_ := below_step hHeld hb
            clear hb hHeld
            refine hK.out _ _ hS_ (fun hHeld => ?_)
            clear hK K hS_
            refine norm_ (a' := ?_) ?_ ?_
            rotate_left
            · show Act.put _ (some 128) _ = _
              simp only [Act.put, List.setIfInBounds_toArray, List.set_cons_zero, List.set_cons_succ, i64_w, i32_w]
              rfl
            refine one_ (i := 3) (N := some 130) #[true, true, true, true, true, true, false, true, true, true, true, true, true, true, true, true, true, false] rfl rfl (by kernel_rfl) (by decide) (fun K hK => ?_)
            refine Kd.R_append_rows_step (Kd.int .i64) (w0 := w0) w0.heap.size (by rfl) (.tmp 128) (.tmp 129) 24 2 (.int .i64 0) 8 rfl Tryd.underlying24 info2' rfl (by decide) (by omega) v1 [] row _ _ _ (fun k => wq.heap.size ≤ k) (fun _ => False) rfl rfl ?aOp10 ?aRp10 (fun _ _ h => h) (fun _ h => h.elim) ?aFp10 ?aBp10 ?aSp10 ?aLp10 ?_
            (case aOp10 => exact R1.out)
            (case aRp10 => exact (Kd.R_reads' (Kd.R_below RQ0.out hHeld)).2.2)
            (case aFp10 => exact fun k hk => Nat.le_trans hHeld.size hk)
            (case aBp10 => exact below_step IQ0.out.b hHeld)
            (case aSp10 => exact (below_step IQ0.out.b hHeld).size)
            (case aLp10 => have := HLEN.out; simp; omega)
            intro v3 wz ho hb2 hg hat
            have hS_ := Below.trans hHeld (grown_append hg wq.heap.size hHeld.size (fun k hk => R1.out.1 k hk))
            have nRL := Lib.hid (Kd.R_mono (ok' := fun k => wq.heap.size ≤ k) (Kd.R_step RL.out (fun k hok hlt => hg.block k hlt hok.2)) (fun k hk => hk.1))
            clear RL
            have RL := nRL
            clear nRL
            have R3 := Lib.hid (show Kd.R (Kd.int .i64) 2 wz w0.heap.size (fun k => wq.heap.size ≤ k) v3 row from ho)
            clear R1
            clear ho hb2 hg hat
            refine hK.out _ _ hS_ (fun hHeld => ?_)
            clear hK K hS_
            refine norm_ (a' := ?_) ?_ ?_
            rotate_left
            · show Act.put _ (some 130) _ = _
              simp only [Act.put, List.setIfInBounds_toArray, List.set_cons_zero, List.set_cons_succ, i64_w, i32_w]
              rfl
            refine one_ (i := 6) (N := some 133) #[true, true, true, true, true, true, true, true, true, true, true, true, true, true, true, true, true, false] rfl rfl (by kernel_rfl) (by decide) (fun K hK => ?_)
            obtain ⟨AL, cL, rfl⟩ := Kd.R_slice RL.out
            refine Kd.R_append_rows_step (Kd.int .i64) (w0 := w0) w0.heap.size (by rfl) (.tmp 130) (.tmp 132) 24 2 (.int .i64 0) 8 rfl Tryd.underlying24 info2' rfl (by decide) (by omega) v3 row [(j : Int)] _ _ _ (fun k => wq.heap.size ≤ k) (fun _ => False) rfl rfl ?aOp11 ?aRp11 (fun _ _ h => h) (fun _ h => h.elim) ?aFp11 ?aBp11 ?aSp11 ?aLp11 ?_
            (case aOp11 => exact R3.out)
            (case aRp11 => exact (Kd.R_reads' RL.out).2.2)
            (case aFp11 => exact fun k hk => Nat.le_trans hHeld.size hk)
            (case aBp11 => exact below_step IQ0.out.b hHeld)
            (case aSp11 => exact (below_step IQ0.out.b hHeld).size)
            (case aLp11 => have := HLEN.out; simp; omega)
            intro v6 wz ho hb2 hg hat
            have hS_ := Below.trans hHeld (grown_append hg wq.heap.size hHeld.size (fun k hk => R3.out.1 k hk))
            have R6 := Lib.hid ho
            clear R3 RL
            clear ho hb2 hg hat
            refine hK.out _ _ hS_ (fun hHeld => ?_)
            clear hK K hS_
            refine norm_ (a' := ?_) ?_ ?_
            rotate_left
            · show Act.put _ (some 133) _ = _
              simp only [Act.put, List.setIfInBounds_toArray, List.set_cons_zero, List.set_cons_succ, i64_w, i32_w]
              rfl
            refine last_ (i := 17) (N := some 144) #[true, true, true, true, true, true, true, true, true, true, true, true, true, true, true, true, true, true] rfl rfl (by kernel_rfl) (by decide) (fun K hK => ?_)
            refine goes_ Tryd.func15 (by kernel_rfl) rfl #[.pointer (some ⟨gr, 0, none⟩), v6, .string (s ++ (rd_T44 l (j : Int)).f0)] (by rfl) rfl rfl (by (try simp only [List.map_toArray, List.map_cons, List.map_nil]); first | done | rfl | (simp only [List.length_drop, List.length_take]; rfl)) ?_
            have I6 := Lib.hid (IQ0.out.step hHeld)
            have A6 := Lib.hid (Kd.R_mono R6.out (fun k (hk : wq.heap.size ≤ k) => show k ≠ gr from by have h1 := blk_lt IQ0.out.k; omega))
            have B6 := Lib.hid (Kd.R_below BQ0.out hHeld)
            have Q6 := Lib.hid (Kd.R_below RQ0.out hHeld)
            have G6 := Lib.hid (grown_below GQ0.out hHeld)
            with_reducible refine (IH.out (row ++ [(j : Int)]) (longAt l d row best j) v6 vj _ _ HLT2.out HLEN2.out HSZ2.out HALL2.out I6.out A6.out B6.out).mono ?_
            rintro e wz ⟨rfl, vb', hI4, hB4, hG4⟩
            refine ⟨_, rfl, ?_⟩
            have R4 := Lib.hid (row_grown2 Q6.out hG4)
            have G4 := Lib.hid (grown_trans G6.out hG4)
            refine hK.out _ _ ?_
            clear hK K
            refine norm_ (a' := ?_) ?_ ?_
            rotate_left
            · show Act.put _ (some 144) _ = _
              simp only [Act.put, List.setIfInBounds_toArray, List.set_cons_zero, List.set_cons_succ, i64_w, i32_w]
              rfl
            refine done_ (by kernel_rfl) ?_
            go_wp2
            go_roundw
            case measure => simp only [intOf]; omega
            case rel => exact ⟨j + 1, vb', by omega, by go_num, Lib.hid hI4, R4, Lib.hid (by rw [ES.out]; exact hB4), G4⟩
      · have h01 : decide ((row.length : Int) > 0) = true := decide_eq_true (by omega)
        have h05 : ((row.length : Int) == 0) = false := by simpa using h00
        have H00 := Lib.hid h00
        have hm1 : IntKind.i64.wrap ((row.length : Int) - 1) = ((row.length - 1 : Nat) : Int) := by rw [show (row.length : Int) - 1 = ((row.length - 1 : Nat) : Int) by omega]; exact IntWalk.i64_in _ (by omega)
        have hm2 : ((row.length - 1 : Nat) : Int) < (row.length : Int) := by omega
        have HLA := Lib.hid (numB_iff.1 (List.all_eq_true.1 HALL.out _ (rd_mem row (row.length - 1) (by omega))))
        have hla0 := HLA.out.1
        have hla1 := HLA.out.2
        clear h00
        cases hh : (row.any fun x => (j : Int) == x) with
        | true =>
          have EG := Lib.hid (show goesB l row (j : Int) = false by unfold goesB; rw [hh]; rfl)
          have ES := Lib.hid (show longAt l d row best (j + 1) = longAt l d row best j by rw [longAt_step, EG.out]; rfl)
          have HH := Lib.hid ((spec_l00Has.val row (j : Int) (by omega)).trans (congrArg some hh))
          clear hh
          go_wp2
          refine start_ (n := 29) (S := fun w' => Below (wr).drew.heap.size (wr).drew w') (ds := []) #[false, false, false, false, false, false, false, false, false, false, false, false, false, false, false, false, false, false, false, false, false, false, false, false, false, false, false, false, false] (by kernel_rfl) rfl rfl (Below.refl _ _) (fun hHeld => ?_)
          have IQ0 := Lib.hid (IV.out.step (below_drew1 (Below.refl wr.heap.size wr)))
          have RQ0 := Lib.hid (Kd.R_below RV.out (below_drew1 (Below.refl wr.heap.size wr)))
          have BQ0 := Lib.hid (Kd.R_below BV.out (below_drew1 (Below.refl wr.heap.size wr)))
          have GQ0 := Lib.hid (grown_below GV.out (below_drew1 (Below.refl wr.heap.size wr)))
          clear IV RV BV GV
          generalize wr.drew = wq at IQ0 RQ0 BQ0 GQ0 hHeld ⊢
          have c0 := IQ0.out.c0
          obtain ⟨adk, ek, hk0, hk1, hk2⟩ := at_T44 (Kd.C_below HR.out IQ0.out.b) (j : Int) (by omega) (by omega)
          cases ek
          simp only [Int.toNat_natCast] at hk0 hk1 hk2
          refine pure_ (i := 0) (N := some 98) (v := ?_) (a' := ?_) #[true, false, false, false, false, false, false, false, false, false, false, false, false, false, false, false, false, false, false, false, false, false, false, false, false, false, false, false, false] rfl rfl (by kernel_rfl) (fun _ _ _ h => h) (Or.inl ⟨by rfl, ?_⟩) ?_ ?_
          rotate_left
          · intro w'
            go_simp
            with_reducible rfl
          rotate_left
          · simp only [Act.put, List.setIfInBounds_toArray, List.set_cons_zero, List.set_cons_succ, i64_w, i32_w]
            rfl
          refine pure_ (i := 1) (N := some 99) (v := ?_) (a' := ?_) #[true, true, false, false, false, false, false, false, false, false, false, false, false, false, false, false, false, false, false, false, false, false, false, false, false, false, false, false, false] rfl rfl (by kernel_rfl) (fun _ _ _ h => h) (Or.inl ⟨by rfl, ?_⟩) ?_ ?_
          rotate_left
          · intro w'
            go_simp
            with_reducible rfl
          rotate_left
          · simp only [Act.put, List.setIfInBounds_toArray, List.set_cons_zero, List.set_cons_succ, i64_w, i32_w]
            rfl
          refine one_ (i := 2) (N := some 100) #[true, true, true, false, false, false, false, false, false, false, false, false, false, false, false, false, false, false, false, false, false, false, false, false, false, false, false, false, false] rfl rfl (by kernel_rfl) (by decide) (fun K hK => ?_)
          refine goes_ Tryd.func23 (by kernel_rfl) rfl #[.slice Ar row.length cr, .int .i64 j] (by rfl) rfl rfl (by (try simp only [List.map_toArray, List.map_cons, List.map_nil]); first | done | rfl | (simp only [List.length_drop, List.length_take]; rfl)) ?_
          with_reducible refine (spec_l00Has.calls (row.length + 1) Ar cr row (j : Int) _ _ (Kd.R_reads' (Kd.R_below RQ0.out hHeld)).2.2 (Kd.R_reads' RQ0.out).2.1 HH.out).mono ?_
          rintro e wz ⟨rfl, hd5⟩
          refine ⟨_, rfl, ?_⟩
          have hS_ : Below wq.heap.size wq wz := by obtain ⟨nd, rfl⟩ := hd5; exact pw_below_drewN hHeld nd
          clear hd5 hHeld
          refine hK.out _ _ hS_ (fun hHeld => ?_)
          clear hK K hS_
          refine norm_ (a' := ?_) ?_ ?_
          rotate_left
          · show Act.put _ (some 100) _ = _
            simp only [Act.put, List.setIfInBounds_toArray, List.set_cons_zero, List.set_cons_succ, i64_w, i32_w]
            rfl
          refine pure_ (i := 3) (N := some 101) (v := ?_) (a' := ?_) #[true, true, true, true, false, false, false, false, false, false, false, false, false, false, false, false, false, false, false, false, false, false, false, false, false, false, false, false, false] rfl rfl (by kernel_rfl) (fun _ _ _ h => h) (Or.inl ⟨by rfl, ?_⟩) ?_ ?_
          rotate_left
          · intro w'
            go_simp
            with_reducible rfl
          rotate_left
          · simp only [Act.put, List.setIfInBounds_toArray, List.set_cons_zero, List.set_cons_succ, i64_w, i32_w]
            rfl
          refine pure_ (i := 4) (N := some 102) (v := ?_) (a' := ?_) #[true, true, true, true, true, false, false, false, false, false, false, false, false, false, false, false, false, false, false, false, false, false, false, false, false, false, false, false, false] rfl rfl (by kernel_rfl) (fun _ _ _ h => h) (Or.inl ⟨by rfl, ?_⟩) ?_ ?_
          rotate_left
          · intro w'
            go_simp
            with_reducible rfl
          rotate_left
          · simp only [Act.put, List.setIfInBounds_toArray, List.set_cons_zero, List.set_cons_succ, i64_w, i32_w]
            rfl
          refine pure_ (i := 5) (N := some 103) (v := undef) (a' := ?_) #[true, true, true, true, true, true, false, false, false, false, false, false, false, false, false, false, false, false, false, false, false, false, false, false, false, false, false, false, false] rfl rfl (by kernel_rfl) (fun _ _ _ h => h) (Or.inr ⟨by rfl, rfl⟩) ?_ ?_
          rotate_left
          · simp only [Act.put, List.setIfInBounds_toArray, List.set_cons_zero, List.set_cons_succ, i64_w, i32_w]
            rfl
          refine pure_ (i := 6) (N := some 104) (v := undef) (a' := ?_) #[true, true, true, true, true, true, true, false, false, false, false, false, false, false, false, false, false, false, false, false, false, false, false, false, false, false, false, false, false] rfl rfl (by kernel_rfl) (fun _ _ _ h => h) (Or.inr ⟨by rfl, rfl⟩) ?_ ?_
          rotate_left
          · simp only [Act.put, List.setIfInBounds_toArray, List.set_cons_zero, List.set_cons_succ, i64_w, i32_w]
            rfl
          refine pure_ (i := 7) (N := some 105) (v := undef) (a' := ?_) #[true, true, true, true, true, true, true, true, false, false, false, false, false, false, false, false, false, false, false, false, false, false, false, false, false, false, false, false, false] rfl rfl (by kernel_rfl) (fun _ _ _ h => h) (Or.inr ⟨by rfl, rfl⟩) ?_ ?_
          rotate_left
          · simp only [Act.put, List.setIfInBounds_toArray, List.set_cons_zero, List.set_cons_succ, i64_w, i32_w]
            rfl
          refine pure_ (i := 8) (N := some 106) (v := undef) (a' := ?_) #[true, true, true, true, true, true, true, true, true, false, false, false, false, false, false, false, false, false, false, false, false, false, false, false, false, false, false, false, false] rfl rfl (by kernel_rfl) (fun _ _ _ h => h) (Or.inr ⟨by rfl, rfl⟩) ?_ ?_
          rotate_left
          · simp only [Act.put, List.setIfInBounds_toArray, List.set_cons_zero, List.set_cons_succ, i64_w, i32_w]
            rfl
          refine pure_ (i := 9) (N := some 107) (v := undef) (a' := ?_) #[true, true, true, true, true, true, true, true, true, true, false, false, false, false, false, false, false, false, false, false, false, false, false, false, false, false, false, false, false] rfl rfl (by kernel_rfl) (fun _ _ _ h => h) (Or.inr ⟨by rfl, rfl⟩) ?_ ?_
          rotate_left
          · simp only [Act.put, List.setIfInBounds_toArray, List.set_cons_zero, List.set_cons_succ, i64_w, i32_w]
            rfl
          refine pure_ (i := 10) (N := some 108) (v := undef) (a' := ?_) #[true, true, true, true, true, true, true, true, true, true, true, false, false, false, false, false, false, false, false, false, false, false, false, false, false, false, false, false, false] rfl rfl (by kernel_rfl) (fun _ _ _ h => h) (Or.inr ⟨by rfl, rfl⟩) ?_ ?_
          rotate_left
          · simp only [Act.put, List.setIfInBounds_toArray, List.set_cons_zero, List.set_cons_succ, i64_w, i32_w]
            rfl
          refine pure_ (i := 11) (N := some 109) (v := undef) (a' := ?_) #[true, true, true, true, true, true, true, true, true, true, true, true, false, false, false, false, false, false, false, false, false, false, false, false, false, false, false, false, false] rfl rfl (by kernel_rfl) (fun _ _ _ h => h) (Or.inr ⟨by rfl, rfl⟩) ?_ ?_
          rotate_left
          · simp only [Act.put, List.setIfInBounds_toArray, List.set_cons_zero, List.set_cons_succ, i64_w, i32_w]
            rfl
          refine pure_ (i := 12) (N := some 110) (v := undef) (a' := ?_) #[true, true, true, true, true, true, true, true, true, true, true, true, true, false, false, false, false, false, false, false, false, false, false, false, false, false, false, false, false] rfl rfl (by kernel_rfl) (fun _ _ _ h => h) (Or.inr ⟨by rfl, rfl⟩) ?_ ?_
          rotate_left
          · simp only [Act.put, List.setIfInBounds_toArray, List.set_cons_zero, List.set_cons_succ, i64_w, i32_w]
            rfl
          refine pure_ (i := 13) (N := some 111) (v := undef) (a' := ?_) #[true, true, true, true, true, true, true, true, true, true, true, true, true, true, false, false, false, false, false, false, false, false, false, false, false, false, false, false, false] rfl rfl (by kernel_rfl) (fun _ _ _ h => h) (Or.inr ⟨by rfl, rfl⟩) ?_ ?_
          rotate_left
          · simp only [Act.put, List.setIfInBounds_toArray, List.set_cons_zero, List.set_cons_succ, i64_w, i32_w]
            rfl
          refine pure_ (i := 14) (N := some 112) (v := undef) (a' := ?_) #[true, true, true, true, true, true, true, true, true, true, true, true, true, true, true, false, false, false, false, false, false, false, false, false, false, false, false, false, false] rfl rfl (by kernel_rfl) (fun _ _ _ h => h) (Or.inr ⟨by rfl, rfl⟩) ?_ ?_
          rotate_left
          · simp only [Act.put, List.setIfInBounds_toArray, List.set_cons_zero, List.set_cons_succ, i64_w, i32_w]
            rfl
          refine pure_ (i := 15) (N := some 113) (v := undef) (a' := ?_) #[true, true, true, true, true, true, true, true, true, true, true, true, true, true, true, true, false, false, false, false, false, false, false, false, false, false, false, false, false] rfl rfl (by kernel_rfl) (fun _ _ _ h => h) (Or.inr ⟨by rfl, rfl⟩) ?_ ?_
          rotate_left
          · simp only [Act.put, List.setIfInBounds_toArray, List.set_cons_zero, List.set_cons_succ, i64_w, i32_w]
            rfl
          refine pure_ (i := 16) (N := some 114) (v := undef) (a' := ?_) #[true, true, true, true, true, true, true, true, true, true, true, true, true, true, true, true, true, false, false, false, false, false, false, false, false, false, false, false, false] rfl rfl (by kernel_rfl) (fun _ _ _ h => h) (Or.inr ⟨by rfl, rfl⟩) ?_ ?_
          rotate_left
          · simp only [Act.put, List.setIfInBounds_toArray, List.set_cons_zero, List.set_cons_succ, i64_w, i32_w]
            rfl
          refine pure_ (i := 17) (N := some 115) (v := undef) (a' := ?_) #[true, true, true, true, true, true, true, true, true, true, true, true, true, true, true, true, true, true, false, false, false, false, false, false, false, false, false, false, false] rfl rfl (by kernel_rfl) (fun _ _ _ h => h) (Or.inr ⟨by rfl, rfl⟩) ?_ ?_
          rotate_left
          · simp only [Act.put, List.setIfInBounds_toArray, List.set_cons_zero, List.set_cons_succ, i64_w, i32_w]
            rfl
          refine pure_ (i := 18) (N := some 116) (v := undef) (a' := ?_) #[true, true, true, true, true, true, true, true, true, true, true, true, true, true, true, true, true, true, true, false, false, false, false, false, false, false, false, false, false] rfl rfl (by kernel_rfl) (fun _ _ _ h => h) (Or.inr ⟨by rfl, rfl⟩) ?_ ?_
          rotate_left
          · simp only [Act.put, List.setIfInBounds_toArray, List.set_cons_zero, List.set_cons_succ, i64_w, i32_w]
            rfl
          refine pure_ (i := 19) (N := some 117) (v := undef) (a' := ?_) #[true, true, true, true, true, true, true, true, true, true, true, true, true, true, true, true, true, true, true, true, false, false, false, false, false, false, false, false, false] rfl rfl (by kernel_rfl) (fun _ _ _ h => h) (Or.inr ⟨by rfl, rfl⟩) ?_ ?_
          rotate_left
          · simp only [Act.put, List.setIfInBounds_toArray, List.set_cons_zero, List.set_cons_succ, i64_w, i32_w]
            rfl
          refine pure_ (i := 20) (N := some 118) (v := undef) (a' := ?_) #[true, true, true, true, true, true, true, true, true, true, true, true, true, true, true, true, true, true, true, true, true, false, false, false, false, false, false, false, false] rfl rfl (by kernel_rfl) (fun _ _ _ h => h) (Or.inr ⟨by rfl, rfl⟩) ?_ ?_
          rotate_left
          · simp only [Act.put, List.setIfInBounds_toArray, List.set_cons_zero, List.set_cons_succ, i64_w, i32_w]
            rfl
          refine pure_ (i := 21) (N := some 119) (v := undef) (a' := ?_) #[true, true, true, true, true, true, true, true, true, true, true, true, true, true, true, true, true, true, true, true, true, true, false, false, false, false, false, false, false] rfl rfl (by kernel_rfl) (fun _ _ _ h => h) (Or.inr ⟨by rfl, rfl⟩) ?_ ?_
          rotate_left
          · simp only [Act.put, List.setIfInBounds_toArray, List.set_cons_zero, List.set_cons_succ, i64_w, i32_w]
            rfl
          refine pure_ (i := 22) (N := some 120) (v := undef) (a' := ?_) #[true, true, true, true, true, true, true, true, true, true, true, true, true, true, true, true, true, true, true, true, true, true, true, false, false, false, false, false, false] rfl rfl (by kernel_rfl) (fun _ _ _ h => h) (Or.inr ⟨by rfl, rfl⟩) ?_ ?_
          rotate_left
          · simp only [Act.put, List.setIfInBounds_toArray, List.set_cons_zero, List.set_cons_succ, i64_w, i32_w]
            rfl
          refine pure_ (i := 23) (N := some 121) (v := undef) (a' := ?_) #[true, true, true, true, true, true, true, true, true, true, true, true, true, true, true, true, true, true, true, true, true, true, true, true, false, false, false, false, false] rfl rfl (by kernel_rfl) (fun _ _ _ h => h) (Or.inr ⟨by rfl, rfl⟩) ?_ ?_
          rotate_left
          · simp only [Act.put, List.setIfInBounds_toArray, List.set_cons_zero, List.set_cons_succ, i64_w, i32_w]
            rfl
          refine pure_ (i := 24) (N := some 122) (v := undef) (a' := ?_) #[true, true, true, true, true, true, true, true, true, true, true, true, true, true, true, true, true, true, true, true, true, true, true, true, true, false, false, false, false] rfl rfl (by kernel_rfl) (fun _ _ _ h => h) (Or.inr ⟨by rfl, rfl⟩) ?_ ?_
          rotate_left
          · simp only [Act.put, List.setIfInBounds_toArray, List.set_cons_zero, List.set_cons_succ, i64_w, i32_w]
            rfl
          refine pure_ (i := 25) (N := some 123) (v := undef) (a' := ?_) #[true, true, true, true, true, true, true, true, true, true, true, true, true, true, true, true, true, true, true, true, true, true, true, true, true, true, false, false, false] rfl rfl (by kernel_rfl) (fun _ _ _ h => h) (Or.inr ⟨by rfl, rfl⟩) ?_ ?_
          rotate_left
          · simp only [Act.put, List.setIfInBounds_toArray, List.set_cons_zero, List.set_cons_succ, i64_w, i32_w]
            rfl
          refine pure_ (i := 26) (N := some 124) (v := undef) (a' := ?_) #[true, true, true, true, true, true, true, true, true, true, true, true, true, true, true, true, true, true, true, true, true, true, true, true, true, true, true, false, false] rfl rfl (by kernel_rfl) (fun _ _ _ h => h) (Or.inr ⟨by rfl, rfl⟩) ?_ ?_
          rotate_left
          · simp only [Act.put, List.setIfInBounds_toArray, List.set_cons_zero, List.set_cons_succ, i64_w, i32_w]
            rfl
          refine pure_ (i := 27) (N := some 125) (v := undef) (a' := ?_) #[true, true, true, true, true, true, true, true, true, true, true, true, true, true, true, true, true, true, true, true, true, true, true, true, true, true, true, true, false] rfl rfl (by kernel_rfl) (fun _ _ _ h => h) (Or.inr ⟨by rfl, rfl⟩) ?_ ?_
          rotate_left
          · simp only [Act.put, List.setIfInBounds_toArray, List.set_cons_zero, List.set_cons_succ, i64_w, i32_w]
            rfl
          refine pure_ (i := 28) (N := some 126) (v := ?_) (a' := ?_) #[true, true, true, true, true, true, true, true, true, true, true, true, true, true, true, true, true, true, true, true, true, true, true, true, true, true, true, true, true] rfl rfl (by kernel_rfl) (fun _ _ _ h => h) (Or.inl ⟨by rfl, ?_⟩) ?_ ?_
          rotate_left
          · intro w'
            go_simp
            with_reducible rfl
          rotate_left
          · simp only [Act.put, List.setIfInBounds_toArray, List.set_cons_zero, List.set_cons_succ, i64_w, i32_w]
            rfl
          refine done_ (by kernel_rfl) ?_
          go_wp2
          go_roundw
          case measure => simp only [intOf]; omega
          case rel => exact ⟨j + 1, vj, by omega, by go_num, Lib.hid (IQ0.out.step hHeld), Lib.hid (Kd.R_below RQ0.out hHeld), Lib.hid (by rw [ES.out]; exact Kd.R_below BQ0.out hHeld), Lib.hid (grown_below GQ0.out hHeld)⟩
        | false =>
          cases hjb : joinsB (rd_T44 l (rd row ((row.length - 1 : Nat) : Int))) (rd_T44 l (j : Int)) with
          | false =>
            have EG := Lib.hid (show goesB l row (j : Int) = false by unfold goesB; rw [hh, hjb, decide_eq_false H00.out]; rfl)
            have ES := Lib.hid (show longAt l d row best (j + 1) = longAt l d row best j by rw [longAt_step, EG.out]; rfl)
            have HH := Lib.hid ((spec_l00Has.val row (j : Int) (by omega)).trans (congrArg some hh))
            have HJ := Lib.hid ((canJoin_val _ _).trans (congrArg some hjb))
            clear hh hjb
            go_wp2
            refine start_ (n := 29) (S := fun w' => Below (wr).drew.heap.size (wr).drew w') (ds := []) #[false, false, false, false, false, false, false, false, false, false, false, false, false, false, false, false, false, false, false, false, false, false, false, false, false, false, false, false, false] (by kernel_rfl) rfl rfl (Below.refl _ _) (fun hHeld => ?_)
            have IQ0 := Lib.hid (IV.out.step (below_drew1 (Below.refl wr.heap.size wr)))
            have RQ0 := Lib.hid (Kd.R_below RV.out (below_drew1 (Below.refl wr.heap.size wr)))
            have BQ0 := Lib.hid (Kd.R_below BV.out (below_drew1 (Below.refl wr.heap.size wr)))
            have GQ0 := Lib.hid (grown_below GV.out (below_drew1 (Below.refl wr.heap.size wr)))
            clear IV RV BV GV
            generalize wr.drew = wq at IQ0 RQ0 BQ0 GQ0 hHeld ⊢
            have c0 := IQ0.out.c0
            obtain ⟨adk, ek, hk0, hk1, hk2⟩ := at_T44 (Kd.C_below HR.out IQ0.out.b) (j : Int) (by omega) (by omega)
            cases ek
            simp only [Int.toNat_natCast] at hk0 hk1 hk2
            obtain ⟨adl, el, hl0, hl1, hl2⟩ := at_T44 (Kd.C_below HR.out IQ0.out.b) (rd row ((row.length - 1 : Nat) : Int)) (by omega) (by omega)
            cases el
            obtain ⟨adr, er, hq⟩ := Kd.at_int (Kd.R_reads' RQ0.out).2.2 ((row.length - 1 : Nat) : Int) (by omega) (by omega)
            cases er
            simp only [Int.toNat_natCast] at hq
            refine pure_ (i := 0) (N := some 98) (v := ?_) (a' := ?_) #[true, false, false, false, false, false, false, false, false, false, false, false, false, false, false, false, false, false, false, false, false, false, false, false, false, false, false, false, false] rfl rfl (by kernel_rfl) (fun _ _ _ h => h) (Or.inl ⟨by rfl, ?_⟩) ?_ ?_
            rotate_left
            · intro w'
              go_simp
              with_reducible rfl
            rotate_left
            · simp only [Act.put, List.setIfInBounds_toArray, List.set_cons_zero, List.set_cons_succ, i64_w, i32_w]
              rfl
            refine pure_ (i := 1) (N := some 99) (v := ?_) (a' := ?_) #[true, true, false, false, false, false, false, false, false, false, false, false, false, false, false, false, false, false, false, false, false, false, false, false, false, false, false, false, false] rfl rfl (by kernel_rfl) (fun _ _ _ h => h) (Or.inl ⟨by rfl, ?_⟩) ?_ ?_
            rotate_left
            · intro w'
              go_simp
              with_reducible rfl
            rotate_left
            · simp only [Act.put, List.setIfInBounds_toArray, List.set_cons_zero, List.set_cons_succ, i64_w, i32_w]
              rfl
            refine one_ (i := 2) (N := some 100) #[true, true, true, false, false, false, false, false, false, false, false, false, false, false, false, false, false, false, false, false, false, false, false, false, false, false, false, false, false] rfl rfl (by kernel_rfl) (by decide) (fun K hK => ?_)
            refine goes_ Tryd.func23 (by kernel_rfl) rfl #[.slice (some adr) row.length cr, .int .i64 j] (by rfl) rfl rfl (by (try simp only [List.map_toArray, List.map_cons, List.map_nil]); first | done | rfl | (simp only [List.length_drop, List.length_take]; rfl)) ?_
            with_reducible refine (spec_l00Has.calls (row.length + 1) (some adr) cr row (j : Int) _ _ (Kd.R_reads' (Kd.R_below RQ0.out hHeld)).2.2 (Kd.R_reads' RQ0.out).2.1 HH.out).mono ?_
            rintro e wz ⟨rfl, hd5⟩
            refine ⟨_, rfl, ?_⟩
            have hS_ : Below wq.heap.size wq wz := by obtain ⟨nd, rfl⟩ := hd5; exact pw_below_drewN hHeld nd
            clear hd5 hHeld
            refine hK.out _ _ hS_ (fun hHeld => ?_)
            clear hK K hS_
            refine norm_ (a' := ?_) ?_ ?_
            rotate_left
            · show Act.put _ (some 100) _ = _
              simp only [Act.put, List.setIfInBounds_toArray, List.set_cons_zero, List.set_cons_succ, i64_w, i32_w]
              rfl
            refine pure_ (i := 3) (N := some 101) (v := ?_) (a' := ?_) #[true, true, true, true, false, false, false, false, false, false, false, false, false, false, false, false, false, false, false, false, false, false, false, false, false, false, false, false, false] rfl rfl (by kernel_rfl) (fun _ _ _ h => h) (Or.inl ⟨by rfl, ?_⟩) ?_ ?_
            rotate_left
            · intro w'
              go_simp
              with_reducible rfl
            rotate_left
            · simp only [Act.put, List.setIfInBounds_toArray, List.set_cons_zero, List.set_cons_succ, i64_w, i32_w]
              rfl
            refine pure_ (i := 4) (N := some 102) (v := ?_) (a' := ?_) #[true, true, true, true, true, false, false, false, false, false, false, false, false, false, false, false, false, false, false, false, false, false, false, false, false, false, false, false, false] rfl rfl (by kernel_rfl) (fun _ _ _ h => h) (Or.inl ⟨by rfl, ?_⟩) ?_ ?_
            rotate_left
            · intro w'
              go_simp
              with_reducible rfl
            rotate_left
            · simp only [Act.put, List.setIfInBounds_toArray, List.set_cons_zero, List.set_cons_succ, i64_w, i32_w]
              rfl
            refine pure_ (i := 5) (N := some 103) (v := ?_) (a' := ?_) #[true, true, true, true, true, true, false, false, false, false, false, false, false, false, false, false, false, false, false, false, false, false, false, false, false, false, false, false, false] rfl rfl (by kernel_rfl) (fun _ _ _ h => h) (Or.inl ⟨by rfl, ?_⟩) ?_ ?_
            rotate_left
            · intro w'
              go_simp
              with_reducible rfl
            rotate_left
            · simp only [Act.put, List.setIfInBounds_toArray, List.set_cons_zero, List.set_cons_succ, i64_w, i32_w]
              rfl
            refine pure_ (i := 6) (N := some 104) (v := ?_) (a' := ?_) #[true, true, true, true, true, true, true, false, false, false, false, false, false, false, false, false, false, false, false, false, false, false, false, false, false, false, false, false, false] rfl rfl (by kernel_rfl) (fun _ _ _ h => h) (Or.inl ⟨by rfl, ?_⟩) ?_ ?_
            rotate_left
            · intro w'
              go_simp
              with_reducible rfl
            rotate_left
            · simp only [Act.put, List.setIfInBounds_toArray, List.set_cons_zero, List.set_cons_succ, i64_w, i32_w]
              rfl
            refine pure_ (i := 7) (N := some 105) (v := ?_) (a' := ?_) #[true, true, true, true, true, true, true, true, false, false, false, false, false, false, false, false, false, false, false, false, false, false, false, false, false, false, false, false, false] rfl rfl (by kernel_rfl) (fun _ _ _ h => h) (Or.inl ⟨by rfl, ?_⟩) ?_ ?_
            rotate_left
            · intro w'
              go_simp
              with_reducible rfl
            rotate_left
            · simp only [Act.put, List.setIfInBounds_toArray, List.set_cons_zero, List.set_cons_succ, i64_w, i32_w]
              rfl
            refine pure_ (i := 8) (N := some 106) (v := ?_) (a' := ?_) #[true, true, true, true, true, true, true, true, true, false, false, false, false, false, false, false, false, false, false, false, false, false, false, false, false, false, false, false, false] rfl rfl (by kernel_rfl) (fun _ _ _ h => h) (Or.inl ⟨by rfl, ?_⟩) ?_ ?_
            rotate_left
            · intro w'
              go_simp
              with_reducible rfl
            rotate_left
            · simp only [Act.put, List.setIfInBounds_toArray, List.set_cons_zero, List.set_cons_succ, i64_w, i32_w]
              rfl
            refine pure_ (i := 9) (N := some 107) (v := ?_) (a' := ?_) #[true, true, true, true, true, true, true, true, true, true, false, false, false, false, false, false, false, false, false, false, false, false, false, false, false, false, false, false, false] rfl rfl (by kernel_rfl) (fun _ _ _ h => h) (Or.inl ⟨by rfl, ?_⟩) ?_ ?_
            rotate_left
            · intro w'
              go_simp
              with_reducible rfl
            rotate_left
            · simp only [Act.put, List.setIfInBounds_toArray, List.set_cons_zero, List.set_cons_succ, i64_w, i32_w]
              rfl
            refine pure_ (i := 10) (N := some 108) (v := ?_) (a' := ?_) #[true, true, true, true, true, true, true, true, true, true, true, false, false, false, false, false, false, false, false, false, false, false, false, false, false, false, false, false, false] rfl rfl (by kernel_rfl) (fun _ _ _ h => h) (Or.inl ⟨by rfl, ?_⟩) ?_ ?_
            rotate_left
            · intro w'
              go_simp
              with_reducible rfl
            rotate_left
            · simp only [Act.put, List.setIfInBounds_toArray, List.set_cons_zero, List.set_cons_succ, i64_w, i32_w]
              rfl
            refine take_ (i := 11) (N := some 109) (v := ?_) (a' := ?_) #[true, true, true, true, true, true, true, true, true, true, true, true, false, false, false, false, false, false, false, false, false, false, false, false, false, false, false, false, false] rfl rfl (by kernel_rfl) (fun _ _ _ h => h) (Or.inl ⟨by rfl, ?_⟩) hHeld ?_ ?_
            rotate_left
            · rintro w' hS
              have q_c0 := bcell hS c0
              have q_hk0 := bcell hS hk0
              have q_hk1 := bcell hS hk1
              have q_hk2 := bcell hS hk2
              have q_hl0 := bcell hS hl0
              have q_hl1 := bcell hS hl1
              have q_hl2 := bcell hS hl2
              have q_hq := bcell hS hq
              go_simp
              with_reducible rfl
            rotate_left
            · simp only [Act.put, List.setIfInBounds_toArray, List.set_cons_zero, List.set_cons_succ, i64_w, i32_w]
              rfl
            refine pure_ (i := 12) (N := some 110) (v := ?_) (a' := ?_) #[true, true, true, true, true, true, true, true, true, true, true, true, true, false, false, false, false, false, false, false, false, false, false, false, false, false, false, false, false] rfl rfl (by kernel_rfl) (fun _ _ _ h => h) (Or.inl ⟨by rfl, ?_⟩) ?_ ?_
            rotate_left
            · intro w'
              go_simp
              with_reducible rfl
            rotate_left
            · simp only [Act.put, List.setIfInBounds_toArray, List.set_cons_zero, List.set_cons_succ, i64_w, i32_w]
              rfl
            refine pure_ (i := 13) (N := some 111) (v := ?_) (a' := ?_) #[true, true, true, true, true, true, true, true, true, true, true, true, true, true, false, false, false, false, false, false, false, false, false, false, false, false, false, false, false] rfl rfl (by kernel_rfl) (fun _ _ _ h => h) (Or.inl ⟨by rfl, ?_⟩) ?_ ?_
            rotate_left
            · intro w'
              go_simp
              with_reducible rfl
            rotate_left
            · simp only [Act.put, List.setIfInBounds_toArray, List.set_cons_zero, List.set_cons_succ, i64_w, i32_w]
              rfl
            refine pure_ (i := 14) (N := some 112) (v := ?_) (a' := ?_) #[true, true, true, true, true, true, true, true, true, true, true, true, true, true, true, false, false, false, false, false, false, false, false, false, false, false, false, false, false] rfl rfl (by kernel_rfl) (fun _ _ _ h => h) (Or.inl ⟨by rfl, ?_⟩) ?_ ?_
            rotate_left
            · intro w'
              go_simp
              with_reducible rfl
            rotate_left
            · simp only [Act.put, List.setIfInBounds_toArray, List.set_cons_zero, List.set_cons_succ, i64_w, i32_w]
              rfl
            refine pure_ (i := 15) (N := some 113) (v := ?_) (a' := ?_) #[true, true, true, true, true, true, true, true, true, true, true, true, true, true, true, true, false, false, false, false, false, false, false, false, false, false, false, false, false] rfl rfl (by kernel_rfl) (fun _ _ _ h => h) (Or.inl ⟨by rfl, ?_⟩) ?_ ?_
            rotate_left
            · intro w'
              go_simp
              with_reducible rfl
            rotate_left
            · simp only [Act.put, List.setIfInBounds_toArray, List.set_cons_zero, List.set_cons_succ, i64_w, i32_w]
              rfl
            refine take_ (i := 16) (N := some 114) (v := ?_) (a' := ?_) #[true, true, true, true, true, true, true, true, true, true, true, true, true, true, true, true, true, false, false, false, false, false, false, false, false, false, false, false, false] rfl rfl (by kernel_rfl) (fun _ _ _ h => h) (Or.inl ⟨by rfl, ?_⟩) hHeld ?_ ?_
            rotate_left
            · rintro w' hS
              have q_c0 := bcell hS c0
              have q_hk0 := bcell hS hk0
              have q_hk1 := bcell hS hk1
              have q_hk2 := bcell hS hk2
              have q_hl0 := bcell hS hl0
              have q_hl1 := bcell hS hl1
              have q_hl2 := bcell hS hl2
              have q_hq := bcell hS hq
              go_simp
              with_reducible rfl
            rotate_left
            · simp only [Act.put, List.setIfInBounds_toArray, List.set_cons_zero, List.set_cons_succ, i64_w, i32_w]
              rfl
            refine pure_ (i := 17) (N := some 115) (v := ?_) (a' := ?_) #[true, true, true, true, true, true, true, true, true, true, true, true, true, true, true, true, true, true, false, false, false, false, false, false, false, false, false, false, false] rfl rfl (by kernel_rfl) (fun _ _ _ h => h) (Or.inl ⟨by rfl, ?_⟩) ?_ ?_
            rotate_left
            · intro w'
              go_simp
              with_reducible rfl
            rotate_left
            · simp only [Act.put, List.setIfInBounds_toArray, List.set_cons_zero, List.set_cons_succ, i64_w, i32_w]
              rfl
            refine take_ (i := 18) (N := some 116) (v := ?_) (a' := ?_) #[true, true, true, true, true, true, true, true, true, true, true, true, true, true, true, true, true, true, true, false, false, false, false, false, false, false, false, false, false] rfl rfl (by kernel_rfl) (fun _ _ _ h => h) (Or.inl ⟨by rfl, ?_⟩) hHeld ?_ ?_
            rotate_left
            · rintro w' hS
              have q_c0 := bcell hS c0
              have q_hk0 := bcell hS hk0
              have q_hk1 := bcell hS hk1
              have q_hk2 := bcell hS hk2
              have q_hl0 := bcell hS hl0
              have q_hl1 := bcell hS hl1
              have q_hl2 := bcell hS hl2
              have q_hq := bcell hS hq
              go_simp
              with_reducible rfl
            rotate_left
            · simp only [Act.put, List.setIfInBounds_toArray, List.set_cons_zero, List.set_cons_succ, i64_w, i32_w]
              rfl
            refine pure_ (i := 19) (N := some 117) (v := ?_) (a' := ?_) #[true, true, true, true, true, true, true, true, true, true, true, true, true, true, true, true, true, true, true, true, false, false, false, false, false, false, false, false, false] rfl rfl (by kernel_rfl) (fun _ _ _ h => h) (Or.inl ⟨by rfl, ?_⟩) ?_ ?_
            rotate_left
            · intro w'
              go_simp
              with_reducible rfl
            rotate_left
            · simp only [Act.put, List.setIfInBounds_toArray, List.set_cons_zero, List.set_cons_succ, i64_w, i32_w]
              rfl
            refine pure_ (i := 20) (N := some 118) (v := ?_) (a' := ?_) #[true, true, true, true, true, true, true, true, true, true, true, true, true, true, true, true, true, true, true, true, true, false, false, false, false, false, false, false, false] rfl rfl (by kernel_rfl) (fun _ _ _ h => h) (Or.inl ⟨by rfl, ?_⟩) ?_ ?_
            rotate_left
            · intro w'
              go_simp
              with_reducible rfl
            rotate_left
            · simp only [Act.put, List.setIfInBounds_toArray, List.set_cons_zero, List.set_cons_succ, i64_w, i32_w]
              rfl
            refine pure_ (i := 21) (N := some 119) (v := ?_) (a' := ?_) #[true, true, true, true, true, true, true, true, true, true, true, true, true, true, true, true, true, true, true, true, true, true, false, false, false, false, false, false, false] rfl rfl (by kernel_rfl) (fun _ _ _ h => h) (Or.inl ⟨by rfl, ?_⟩) ?_ ?_
            rotate_left
            · intro w'
              go_simp
              with_reducible rfl
            rotate_left
            · simp only [Act.put, List.setIfInBounds_toArray, List.set_cons_zero, List.set_cons_succ, i64_w, i32_w]
              rfl
            refine take_ (i := 22) (N := some 120) (v := ?_) (a' := ?_) #[true, true, true, true, true, true, true, true, true, true, true, true, true, true, true, true, true, true, true, true, true, true, true, false, false, false, false, false, false] rfl rfl (by kernel_rfl) (fun _ _ _ h => h) (Or.inl ⟨by rfl, ?_⟩) hHeld ?_ ?_
            rotate_left
            · rintro w' hS
              have q_c0 := bcell hS c0
              have q_hk0 := bcell hS hk0
              have q_hk1 := bcell hS hk1
              have q_hk2 := bcell hS hk2
              have q_hl0 := bcell hS hl0
              have q_hl1 := bcell hS hl1
              have q_hl2 := bcell hS hl2
              have q_hq := bcell hS hq
              go_simp
              with_reducible rfl
            rotate_left
            · simp only [Act.put, List.setIfInBounds_toArray, List.set_cons_zero, List.set_cons_succ, i64_w, i32_w]
              rfl
            refine pure_ (i := 23) (N := some 121) (v := ?_) (a' := ?_) #[true, true, true, true, true, true, true, true, true, true, true, true, true, true, true, true, true, true, true, true, true, true, true, true, false, false, false, false, false] rfl rfl (by kernel_rfl) (fun _ _ _ h => h) (Or.inl ⟨by rfl, ?_⟩) ?_ ?_
            rotate_left
            · intro w'
              go_simp
              with_reducible rfl
            rotate_left
            · simp only [Act.put, List.setIfInBounds_toArray, List.set_cons_zero, List.set_cons_succ, i64_w, i32_w]
              rfl
            refine pure_ (i := 24) (N := some 122) (v := ?_) (a' := ?_) #[true, true, true, true, true, true, true, true, true, true, true, true, true, true, true, true, true, true, true, true, true, true, true, true, true, false, false, false, false] rfl rfl (by kernel_rfl) (fun _ _ _ h => h) (Or.inl ⟨by rfl, ?_⟩) ?_ ?_
            rotate_left
            · intro w'
              go_simp
              with_reducible rfl
            rotate_left
            · simp only [Act.put, List.setIfInBounds_toArray, List.set_cons_zero, List.set_cons_succ, i64_w, i32_w]
              rfl
            refine take_ (i := 25) (N := some 123) (v := ?_) (a' := ?_) #[true, true, true, true, true, true, true, true, true, true, true, true, true, true, true, true, true, true, true, true, true, true, true, true, true, true, false, false, false] rfl rfl (by kernel_rfl) (fun _ _ _ h => h) (Or.inl ⟨by rfl, ?_⟩) hHeld ?_ ?_
            rotate_left
            · rintro w' hS
              have q_c0 := bcell hS c0
              have q_hk0 := bcell hS hk0
              have q_hk1 := bcell hS hk1
              have q_hk2 := bcell hS hk2
              have q_hl0 := bcell hS hl0
              have q_hl1 := bcell hS hl1
              have q_hl2 := bcell hS hl2
              have q_hq := bcell hS hq
              go_simp
              with_reducible rfl
            rotate_left
            · simp only [Act.put, List.setIfInBounds_toArray, List.set_cons_zero, List.set_cons_succ, i64_w, i32_w]
              rfl
            refine one_ (i := 26) (N := some 124) #[true, true, true, true, true, true, true, true, true, true, true, true, true, true, true, true, true, true, true, true, true, true, true, true, true, true, true, false, false] rfl rfl (by kernel_rfl) (by decide) (fun K hK => ?_)
            refine goes_ Tryd.func24 (by kernel_rfl) rfl #[.agg #[.string (rd_T44 l (rd row ((row.length - 1 : Nat) : Int))).f0, .int .u8 (rd_T44 l (rd row ((row.length - 1 : Nat) : Int))).f1, .int .u8 (rd_T44 l (rd row ((row.length - 1 : Nat) : Int))).f2], .agg #[.string (rd_T44 l (j : Int)).f0, .int .u8 (rd_T44 l (j : Int)).f1, .int .u8 (rd_T44 l (j : Int)).f2]] (by rfl) rfl rfl (by (try simp only [List.map_toArray, List.map_cons, List.map_nil]); first | done | rfl | (simp only [List.length_drop, List.length_take]; rfl)) ?_
            with_reducible refine (spec_CanJoin.calls _ _ _ _ _ _ _ _ HJ.out).mono ?_
            rintro e wz ⟨rfl, hb⟩
            refine ⟨_, rfl, ?_⟩
            have hS_ := below_step hHeld hb
            clear hb hHeld
            refine hK.out _ _ hS_ (fun hHeld => ?_)
            clear hK K hS_
            refine norm_ (a' := ?_) ?_ ?_
            rotate_left
            · show Act.put _ (some 124) _ = _
              simp only [Act.put, List.setIfInBounds_toArray, List.set_cons_zero, List.set_cons_succ, i64_w, i32_w]
              rfl
            refine pure_ (i := 27) (N := some 125) (v := ?_) (a' := ?_) #[true, true, true, true, true, true, true, true, true, true, true, true, true, true, true, true, true, true, true, true, true, true, true, true, true, true, true, true, false] rfl rfl (by kernel_rfl) (fun _ _ _ h => h) (Or.inl ⟨by rfl, ?_⟩) ?_ ?_
            rotate_left
            · intro w'
              go_simp
              with_reducible rfl
            rotate_left
            · simp only [Act.put, List.setIfInBounds_toArray, List.set_cons_zero, List.set_cons_succ, i64_w, i32_w]
              rfl
            refine pure_ (i := 28) (N := some 126) (v := ?_) (a' := ?_) #[true, true, true, true, true, true, true, true, true, true, true, true, true, true, true, true, true, true, true, true, true, true, true, true, true, true, true, true, true] rfl rfl (by kernel_rfl) (fun _ _ _ h => h) (Or.inl ⟨by rfl, ?_⟩) ?_ ?_
            rotate_left
            · intro w'
              go_simp
              with_reducible rfl
            rotate_left
            · simp only [Act.put, List.setIfInBounds_toArray, List.set_cons_zero, List.set_cons_succ, i64_w, i32_w]
              rfl
            refine done_ (by kernel_rfl) ?_
            go_wp2
            go_roundw
            case measure => simp only [intOf]; omega
            case rel => exact ⟨j + 1, vj, by omega, by go_num, Lib.hid (IQ0.out.step hHeld), Lib.hid (Kd.R_below RQ0.out hHeld), Lib.hid (by rw [ES.out]; exact Kd.R_below BQ0.out hHeld), Lib.hid (grown_below GQ0.out hHeld)⟩
          | true =>
            have EG := Lib.hid (show goesB l row (j : Int) = true by unfold goesB; rw [hh, hjb, decide_eq_false H00.out]; rfl)
            have ES := Lib.hid (show longAt l d row best (j + 1) = longGo l d (row ++ [(j : Int)]) (longAt l d row best j) by rw [longAt_step, EG.out]; rfl)
            have HLT2 := Lib.hid (show leftN l.length (row ++ [(j : Int)]) < d by have h1 := leftN_less hjl (goesB_has EG.out); have h2 := HLT.out; omega)
            have HLEN2 := Lib.hid (show (row ++ [(j : Int)]).length + d ≤ 9 by have := HLEN.out; rw [List.length_append, List.length_singleton]; omega)
            have HSZ2 := Lib.hid (show (s ++ (rd_T44 l (j : Int)).f0).size + 20 * d ≤ 200 by have h1 := HSZ.out; have h2 := HSM.out.2 (j : Int) HN.out; rw [ByteArray.size_append]; omega)
            have HALL2 := Lib.hid (row_all hjl HALL.out)
            have HH := Lib.hid ((spec_l00Has.val row (j : Int) (by omega)).trans (congrArg some hh))
            have HJ := Lib.hid ((canJoin_val _ _).trans (congrArg some hjb))
            clear hh hjb
            go_wp2
            refine start_ (n := 29) (S := fun w' => Below (wr).drew.heap.size (wr).drew w') (ds := []) #[false, false, false, false, false, false, false, false, false, false, false, false, false, false, false, false, false, false, false, false, false, false, false, false, false, false, false, false, false] (by kernel_rfl) rfl rfl (Below.refl _ _) (fun hHeld => ?_)
            have IQ0 := Lib.hid (IV.out.step (below_drew1 (Below.refl wr.heap.size wr)))
            have RQ0 := Lib.hid (Kd.R_below RV.out (below_drew1 (Below.refl wr.heap.size wr)))
            have BQ0 := Lib.hid (Kd.R_below BV.out (below_drew1 (Below.refl wr.heap.size wr)))
            have GQ0 := Lib.hid (grown_below GV.out (below_drew1 (Below.refl wr.heap.size wr)))
            clear IV RV BV GV
            generalize wr.drew = wq at IQ0 RQ0 BQ0 GQ0 hHeld ⊢
            have c0 := IQ0.out.c0
            obtain ⟨adk, ek, hk0, hk1, hk2⟩ := at_T44 (Kd.C_below HR.out IQ0.out.b) (j : Int) (by omega) (by omega)
            cases ek
            simp only [Int.toNat_natCast] at hk0 hk1 hk2
            obtain ⟨adl, el, hl0, hl1, hl2⟩ := at_T44 (Kd.C_below HR.out IQ0.out.b) (rd row ((row.length - 1 : Nat) : Int)) (by omega) (by omega)
            cases el
            obtain ⟨adr, er, hq⟩ := Kd.at_int (Kd.R_reads' RQ0.out).2.2 ((row.length - 1 : Nat) : Int) (by omega) (by omega)
            cases er
            simp only [Int.toNat_natCast] at hq
            refine pure_ (i := 0) (N := some 98) (v := ?_) (a' := ?_) #[true, false, false, false, false, false, false, false, false, false, false, false, false, false, false, false, false, false, false, false, false, false, false, false, false, false, false, false, false] rfl rfl (by kernel_rfl) (fun _ _ _ h => h) (Or.inl ⟨by rfl, ?_⟩) ?_ ?_
            rotate_left
            · intro w'
              go_simp
              with_reducible rfl
            rotate_left
            · simp only [Act.put, List.setIfInBounds_toArray, List.set_cons_zero, List.set_cons_succ, i64_w, i32_w]
              rfl
            refine pure_ (i := 1) (N := some 99) (v := ?_) (a' := ?_) #[true, true, false, false, false, false, false, false, false, false, false, false, false, false, false, false, false, false, false, false, false, false, false, false, false, false, false, false, false] rfl rfl (by kernel_rfl) (fun _ _ _ h => h) (Or.inl ⟨by rfl, ?_⟩) ?_ ?_
            rotate_left
            · intro w'
              go_simp
              with_reducible rfl
            rotate_left
            · simp only [Act.put, List.setIfInBounds_toArray, List.set_cons_zero, List.set_cons_succ, i64_w, i32_w]
              rfl
            refine one_ (i := 2) (N := some 100) #[true, true, true, false, false, false, false, false, false, false, false, false, false, false, false, false, false, false, false, false, false, false, false, false, false, false, false, false, false] rfl rfl (by kernel_rfl) (by decide) (fun K hK => ?_)
            refine goes_ Tryd.func23 (by kernel_rfl) rfl #[.slice (some adr) row.length cr, .int .i64 j] (by rfl) rfl rfl (by (try simp only [List.map_toArray, List.map_cons, List.map_nil]); first | done | rfl | (simp only [List.length_drop, List.length_take]; rfl)) ?_
            with_reducible refine (spec_l00Has.calls (row.length + 1) (some adr) cr row (j : Int) _ _ (Kd.R_reads' (Kd.R_below RQ0.out hHeld)).2.2 (Kd.R_reads' RQ0.out).2.1 HH.out).mono ?_
            rintro e wz ⟨rfl, hd5⟩
            refine ⟨_, rfl, ?_⟩
            have hS_ : Below wq.heap.size wq wz := by obtain ⟨nd, rfl⟩ := hd5; exact pw_below_drewN hHeld nd
            clear hd5 hHeld
            refine hK.out _ _ hS_ (fun hHeld => ?_)
            clear hK K hS_
            refine norm_ (a' := ?_) ?_ ?_
            rotate_left
            · show Act.put _ (some 100) _ = _
              simp only [Act.put, List.setIfInBounds_toArray, List.set_cons_zero, List.set_cons_succ, i64_w, i32_w]
              rfl
            refine pure_ (i := 3) (N := some 101) (v := ?_) (a' := ?_) #[true, true, true, true, false, false, false, false, false, false, false, false, false, false, false, false, false, false, false, false, false, false, false, false, false, false, false, false, false] rfl rfl (by kernel_rfl) (fun _ _ _ h => h) (Or.inl ⟨by rfl, ?_⟩) ?_ ?_
            rotate_left
            · intro w'
              go_simp
              with_reducible rfl
            rotate_left
            · simp only [Act.put, List.setIfInBounds_toArray, List.set_cons_zero, List.set_cons_succ, i64_w, i32_w]
              rfl
            refine pure_ (i := 4) (N := some 102) (v := ?_) (a' := ?_) #[true, true, true, true, true, false, false, false, false, false, false, false, false, false, false, false, false, false, false, false, false, false, false, false, false, false, false, false, false] rfl rfl (by kernel_rfl) (fun _ _ _ h => h) (Or.inl ⟨by rfl, ?_⟩) ?_ ?_
            rotate_left
            · intro w'
              go_simp
              with_reducible rfl
            rotate_left
            · simp only [Act.put, List.setIfInBounds_toArray, List.set_cons_zero, List.set_cons_succ, i64_w, i32_w]
              rfl
            refine pure_ (i := 5) (N := some 103) (v := ?_) (a' := ?_) #[true, true, true, true, true, true, false, false, false, false, false, false, false, false, false, false, false, false, false, false, false, false, false, false, false, false, false, false, false] rfl rfl (by kernel_rfl) (fun _ _ _ h => h) (Or.inl ⟨by rfl, ?_⟩) ?_ ?_
            rotate_left
            · intro w'
              go_simp
              with_reducible rfl
            rotate_left
            · simp only [Act.put, List.setIfInBounds_toArray, List.set_cons_zero, List.set_cons_succ, i64_w, i32_w]
              rfl
            refine pure_ (i := 6) (N := some 104) (v := ?_) (a' := ?_) #[true, true, true, true, true, true, true, false, false, false, false, false, false, false, false, false, false, false, false, false, false, false, false, false, false, false, false, false, false] rfl rfl (by kernel_rfl) (fun _ _ _ h => h) (Or.inl ⟨by rfl, ?_⟩) ?_ ?_
            rotate_left
            · intro w'
              go_simp
              with_reducible rfl
            rotate_left
            · simp only [Act.put, List.setIfInBounds_toArray, List.set_cons_zero, List.set_cons_succ, i64_w, i32_w]
              rfl
            refine pure_ (i := 7) (N := some 105) (v := ?_) (a' := ?_) #[true, true, true, true, true, true, true, true, false, false, false, false, false, false, false, false, false, false, false, false, false, false, false, false, false, false, false, false, false] rfl rfl (by kernel_rfl) (fun _ _ _ h => h) (Or.inl ⟨by rfl, ?_⟩) ?_ ?_
            rotate_left
            · intro w'
              go_simp
              with_reducible rfl
            rotate_left
            · simp only [Act.put, List.setIfInBounds_toArray, List.set_cons_zero, List.set_cons_succ, i64_w, i32_w]
              rfl
            refine pure_ (i := 8) (N := some 106) (v := ?_) (a' := ?_) #[true, true, true, true, true, true, true, true, true, false, false, false, false, false, false, false, false, false, false, false, false, false, false, false, false, false, false, false, false] rfl rfl (by kernel_rfl) (fun _ _ _ h => h) (Or.inl ⟨by rfl, ?_⟩) ?_ ?_
            rotate_left
            · intro w'
              go_simp
              with_reducible rfl
            rotate_left
            · simp only [Act.put, List.setIfInBounds_toArray, List.set_cons_zero, List.set_cons_succ, i64_w, i32_w]
              rfl
            refine pure_ (i := 9) (N := some 107) (v := ?_) (a' := ?_) #[true, true, true, true, true, true, true, true, true, true, false, false, false, false, false, false, false, false, false, false, false, false, false, false, false, false, false, false, false] rfl rfl (by kernel_rfl) (fun _ _ _ h => h) (Or.inl ⟨by rfl, ?_⟩) ?_ ?_
            rotate_left
            · intro w'
              go_simp
              with_reducible rfl
            rotate_left
            · simp only [Act.put, List.setIfInBounds_toArray, List.set_cons_zero, List.set_cons_succ, i64_w, i32_w]
              rfl
            refine pure_ (i := 10) (N := some 108) (v := ?_) (a' := ?_) #[true, true, true, true, true, true, true, true, true, true, true, false, false, false, false, false, false, false, false, false, false, false, false, false, false, false, false, false, false] rfl rfl (by kernel_rfl) (fun _ _ _ h => h) (Or.inl ⟨by rfl, ?_⟩) ?_ ?_
            rotate_left
            · intro w'
              go_simp
              with_reducible rfl
            rotate_left
            · simp only [Act.put, List.setIfInBounds_toArray, List.set_cons_zero, List.set_cons_succ, i64_w, i32_w]
              rfl
            refine take_ (i := 11) (N := some 109) (v := ?_) (a' := ?_) #[true, true, true, true, true, true, true, true, true, true, true, true, false, false, false, false, false, false, false, false, false, false, false, false, false, false, false, false, false] rfl rfl (by kernel_rfl) (fun _ _ _ h => h) (Or.inl ⟨by rfl, ?_⟩) hHeld ?_ ?_
            rotate_left
            · rintro w' hS
              have q_c0 := bcell hS c0
              have q_hk0 := bcell hS hk0
              have q_hk1 := bcell hS hk1
              have q_hk2 := bcell hS hk2
              have q_hl0 := bcell hS hl0
              have q_hl1 := bcell hS hl1
              have q_hl2 := bcell hS hl2
              have q_hq := bcell hS hq
              go_simp
              with_reducible rfl
            rotate_left
            · simp only [Act.put, List.setIfInBounds_toArray, List.set_cons_zero, List.set_cons_succ, i64_w, i32_w]
              rfl
            refine pure_ (i := 12) (N := some 110) (v := ?_) (a' := ?_) #[true, true, true, true, true, true, true, true, true, true, true, true, true, false, false, false, false, false, false, false, false, false, false, false, false, false, false, false, false] rfl rfl (by kernel_rfl) (fun _ _ _ h => h) (Or.inl ⟨by rfl, ?_⟩) ?_ ?_
            rotate_left
            · intro w'
              go_simp
              with_reducible rfl
            rotate_left
            · simp only [Act.put, List.setIfInBounds_toArray, List.set_cons_zero, List.set_cons_succ, i64_w, i32_w]
              rfl
            refine pure_ (i := 13) (N := some 111) (v := ?_) (a' := ?_) #[true, true, true, true, true, true, true, true, true, true, true, true, true, true, false, false, false, false, false, false, false, false, false, false, false, false, false, false, false] rfl rfl (by kernel_rfl) (fun _ _ _ h => h) (Or.inl ⟨by rfl, ?_⟩) ?_ ?_
            rotate_left
            · intro w'
              go_simp
              with_reducible rfl
            rotate_left
            · simp only [Act.put, List.setIfInBounds_toArray, List.set_cons_zero, List.set_cons_succ, i64_w, i32_w]
              rfl
            refine pure_ (i := 14) (N := some 112) (v := ?_) (a' := ?_) #[true, true, true, true, true, true, true, true, true, true, true, true, true, true, true, false, false, false, false, false, false, false, false, false, false, false, false, false, false] rfl rfl (by kernel_rfl) (fun _ _ _ h => h) (Or.inl ⟨by rfl, ?_⟩) ?_ ?_
            rotate_left
            · intro w'
              go_simp
              with_reducible rfl
            rotate_left
            · simp only [Act.put, List.setIfInBounds_toArray, List.set_cons_zero, List.set_cons_succ, i64_w, i32_w]
              rfl
            refine pure_ (i := 15) (N := some 113) (v := ?_) (a' := ?_) #[true, true, true, true, true, true, true, true, true, true, true, true, true, true, true, true, false, false, false, false, false, false, false, false, false, false, false, false, false] rfl rfl (by kernel_rfl) (fun _ _ _ h => h) (Or.inl ⟨by rfl, ?_⟩) ?_ ?_
            rotate_left
            · intro w'
              go_simp
              with_reducible rfl
            rotate_left
            · simp only [Act.put, List.setIfInBounds_toArray, List.set_cons_zero, List.set_cons_succ, i64_w, i32_w]
              rfl
            refine take_ (i := 16) (N := some 114) (v := ?_) (a' := ?_) #[true, true, true, true, true, true, true, true, true, true, true, true, true, true, true, true, true, false, false, false, false, false, false, false, false, false, false, false, false] rfl rfl (by kernel_rfl) (fun _ _ _ h => h) (Or.inl ⟨by rfl, ?_⟩) hHeld ?_ ?_
            rotate_left
            · rintro w' hS
              have q_c0 := bcell hS c0
              have q_hk0 := bcell hS hk0
              have q_hk1 := bcell hS hk1
              have q_hk2 := bcell hS hk2
              have q_hl0 := bcell hS hl0
              have q_hl1 := bcell hS hl1
              have q_hl2 := bcell hS hl2
              have q_hq := bcell hS hq
              go_simp
              with_reducible rfl
            rotate_left
            · simp only [Act.put, List.setIfInBounds_toArray, List.set_cons_zero, List.set_cons_succ, i64_w, i32_w]
              rfl
            refine pure_ (i := 17) (N := some 115) (v := ?_) (a' := ?_) #[true, true, true, true, true, true, true, true, true, true, true, true, true, true, true, true, true, true, false, false, false, false, false, false, false, false, false, false, false] rfl rfl (by kernel_rfl) (fun _ _ _ h => h) (Or.inl ⟨by rfl, ?_⟩) ?_ ?_
            rotate_left
            · intro w'
              go_simp
              with_reducible rfl
            rotate_left
            · simp only [Act.put, List.setIfInBounds_toArray, List.set_cons_zero, List.set_cons_succ, i64_w, i32_w]
              rfl
            refine take_ (i := 18) (N := some 116) (v := ?_) (a' := ?_) #[true, true, true, true, true, true, true, true, true, true, true, true, true, true, true, true, true, true, true, false, false, false, false, false, false, false, false, false, false] rfl rfl (by kernel_rfl) (fun _ _ _ h => h) (Or.inl ⟨by rfl, ?_⟩) hHeld ?_ ?_
            rotate_left
            · rintro w' hS
              have q_c0 := bcell hS c0
              have q_hk0 := bcell hS hk0
              have q_hk1 := bcell hS hk1
              have q_hk2 := bcell hS hk2
              have q_hl0 := bcell hS hl0
              have q_hl1 := bcell hS hl1
              have q_hl2 := bcell hS hl2
              have q_hq := bcell hS hq
              go_simp
              with_reducible rfl
            rotate_left
            · simp only [Act.put, List.setIfInBounds_toArray, List.set_cons_zero, List.set_cons_succ, i64_w, i32_w]
              rfl
            refine pure_ (i := 19) (N := some 117) (v := ?_) (a' := ?_) #[true, true, true, true, true, true, true, true, true, true, true, true, true, true, true, true, true, true, true, true, false, false, false, false, false, false, false, false, false] rfl rfl (by kernel_rfl) (fun _ _ _ h => h) (Or.inl ⟨by rfl, ?_⟩) ?_ ?_
            rotate_left
            · intro w'
              go_simp
              with_reducible rfl
            rotate_left
            · simp only [Act.put, List.setIfInBounds_toArray, List.set_cons_zero, List.set_cons_succ, i64_w, i32_w]
              rfl
            refine pure_ (i := 20) (N := some 118) (v := ?_) (a' := ?_) #[true, true, true, true, true, true, true, true, true, true, true, true, true, true, true, true, true, true, true, true, true, false, false, false, false, false, false, false, false] rfl rfl (by kernel_rfl) (fun _ _ _ h => h) (Or.inl ⟨by rfl, ?_⟩) ?_ ?_
            rotate_left
            · intro w'
              go_simp
              with_reducible rfl
            rotate_left
            · simp only [Act.put, List.setIfInBounds_toArray, List.set_cons_zero, List.set_cons_succ, i64_w, i32_w]
              rfl
            refine pure_ (i := 21) (N := some 119) (v := ?_) (a' := ?_) #[true, true, true, true, true, true, true, true, true, true, true, true, true, true, true, true, true, true, true, true, true, true, false, false, false, false, false, false, false] rfl rfl (by kernel_rfl) (fun _ _ _ h => h) (Or.inl ⟨by rfl, ?_⟩) ?_ ?_
            rotate_left
            · intro w'
              go_simp
              with_reducible rfl
            rotate_left
            · simp only [Act.put, List.setIfInBounds_toArray, List.set_cons_zero, List.set_cons_succ, i64_w, i32_w]
              rfl
            refine take_ (i := 22) (N := some 120) (v := ?_) (a' := ?_) #[true, true, true, true, true, true, true, true, true, true, true, true, true, true, true, true, true, true, true, true, true, true, true, false, false, false, false, false, false] rfl rfl (by kernel_rfl) (fun _ _ _ h => h) (Or.inl ⟨by rfl, ?_⟩) hHeld ?_ ?_
            rotate_left
            · rintro w' hS
              have q_c0 := bcell hS c0
              have q_hk0 := bcell hS hk0
              have q_hk1 := bcell hS hk1
              have q_hk2 := bcell hS hk2
              have q_hl0 := bcell hS hl0
              have q_hl1 := bcell hS hl1
              have q_hl2 := bcell hS hl2
              have q_hq := bcell hS hq
              go_simp
              with_reducible rfl
            rotate_left
            · simp only [Act.put, List.setIfInBounds_toArray, List.set_cons_zero, List.set_cons_succ, i64_w, i32_w]
              rfl
            refine pure_ (i := 23) (N := some 121) (v := ?_) (a' := ?_) #[true, true, true, true, true, true, true, true, true, true, true, true, true, true, true, true, true, true, true, true, true, true, true, true, false, false, false, false, false] rfl rfl (by kernel_rfl) (fun _ _ _ h => h) (Or.inl ⟨by rfl, ?_⟩) ?_ ?_
            rotate_left
            · intro w'
              go_simp
              with_reducible rfl
            rotate_left
            · simp only [Act.put, List.setIfInBounds_toArray, List.set_cons_zero, List.set_cons_succ, i64_w, i32_w]
              rfl
            refine pure_ (i := 24) (N := some 122) (v := ?_) (a' := ?_) #[true, true, true, true, true, true, true, true, true, true, true, true, true, true, true, true, true, true, true, true, true, true, true, true, true, false, false, false, false] rfl rfl (by kernel_rfl) (fun _ _ _ h => h) (Or.inl ⟨by rfl, ?_⟩) ?_ ?_
            rotate_left
            · intro w'
              go_simp
              with_reducible rfl
            rotate_left
            · simp only [Act.put, List.setIfInBounds_toArray, List.set_cons_zero, List.set_cons_succ, i64_w, i32_w]
              rfl
            refine take_ (i := 25) (N := some 123) (v := ?_) (a' := ?_) #[true, true, true, true, true, true, true, true, true, true, true, true, true, true, true, true, true, true, true, true, true, true, true, true, true, true, false, false, false] rfl rfl (by kernel_rfl) (fun _ _ _ h => h) (Or.inl ⟨by rfl, ?_⟩) hHeld ?_ ?_
            rotate_left
            · rintro w' hS
              have q_c0 := bcell hS c0
              have q_hk0 := bcell hS hk0
              have q_hk1 := bcell hS hk1
              have q_hk2 := bcell hS hk2
              have q_hl0 := bcell hS hl0
              have q_hl1 := bcell hS hl1
              have q_hl2 := bcell hS hl2
              have q_hq := bcell hS hq
              go_simp
              with_reducible rfl
            rotate_left
            · simp only [Act.put, List.setIfInBounds_toArray, List.set_cons_zero, List.set_cons_succ, i64_w, i32_w]
              rfl
            refine one_ (i := 26) (N := some 124) #[true, true, true, true, true, true, true, true, true, true, true, true, true, true, true, true, true, true, true, true, true, true, true, true, true, true, true, false, false] rfl rfl (by kernel_rfl) (by decide) (fun K hK => ?_)
            refine goes_ Tryd.func24 (by kernel_rfl) rfl #[.agg #[.string (rd_T44 l (rd row ((row.length - 1 : Nat) : Int))).f0, .int .u8 (rd_T44 l (rd row ((row.length - 1 : Nat) : Int))).f1, .int .u8 (rd_T44 l (rd row ((row.length - 1 : Nat) : Int))).f2], .agg #[.string (rd_T44 l (j : Int)).f0, .int .u8 (rd_T44 l (j : Int)).f1, .int .u8 (rd_T44 l (j : Int)).f2]] (by rfl) rfl rfl (by (try simp only [List.map_toArray, List.map_cons, List.map_nil]); first | done | rfl | (simp only [List.length_drop, List.length_take]; rfl)) ?_
            with_reducible refine (spec_CanJoin.calls _ _ _ _ _ _ _ _ HJ.out).mono ?_
            rintro e wz ⟨rfl, hb⟩
            refine ⟨_, rfl, ?_⟩
            have hS_ := below_step hHeld hb
            clear hb hHeld
            refine hK.out _ _ hS_ (fun hHeld => ?_)
            clear hK K hS_
            refine norm_ (a' := ?_) ?_ ?_
            rotate_left
            · show Act.put _ (some 124) _ = _
              simp only [Act.put, List.setIfInBounds_toArray, List.set_cons_zero, List.set_cons_succ, i64_w, i32_w]
              rfl
            refine pure_ (i := 27) (N := some 125) (v := ?_) (a' := ?_) #[true, true, true, true, true, true, true, true, true, true, true, true, true, true, true, true, true, true, true, true, true, true, true, true, true, true, true, true, false] rfl rfl (by kernel_rfl) (fun _ _ _ h => h) (Or.inl ⟨by rfl, ?_⟩) ?_ ?_
            rotate_left
            · intro w'
              go_simp
              with_reducible rfl
            rotate_left
            · simp only [Act.put, List.setIfInBounds_toArray, List.set_cons_zero, List.set_cons_succ, i64_w, i32_w]
              rfl
            refine pure_ (i := 28) (N := some 126) (v := ?_) (a' := ?_) #[true, true, true, true, true, true, true, true, true, true, true, true, true, true, true, true, true, true, true, true, true, true, true, true, true, true, true, true, true] rfl rfl (by kernel_rfl) (fun _ _ _ h => h) (Or.inl ⟨by rfl, ?_⟩) ?_ ?_
            rotate_left
            · intro w'
              go_simp
              with_reducible rfl
            rotate_left
            · simp only [Act.put, List.setIfInBounds_toArray, List.set_cons_zero, List.set_cons_succ, i64_w, i32_w]
              rfl
            refine done_ (by kernel_rfl) ?_
            have IH1 := Lib.hid (IQ0.out.step hHeld)
            have RH1 := Lib.hid (Kd.R_below RQ0.out hHeld)
            have BH1 := Lib.hid (Kd.R_below BQ0.out hHeld)
            have GH1 := Lib.hid (grown_below GQ0.out hHeld)
            clear IQ0 RQ0 BQ0 GQ0 hHeld c0 hk0 hk1 hk2
            clear hl0 hl1 hl2 hq
            go_wp2
            refine start_ (n := 18) (S := fun w' => Below (wz).drew.heap.size (wz).drew w') (ds := [17]) #[false, false, false, false, false, false, false, false, false, false, false, false, false, false, false, false, false, false] (by kernel_rfl) rfl rfl (Below.refl _ _) (fun hHeld => ?_)
            have IQ0 := Lib.hid (IH1.out.step (below_drew1 (Below.refl wz.heap.size wz)))
            have RQ0 := Lib.hid (Kd.R_below RH1.out (below_drew1 (Below.refl wz.heap.size wz)))
            have BQ0 := Lib.hid (Kd.R_below BH1.out (below_drew1 (Below.refl wz.heap.size wz)))
            have GQ0 := Lib.hid (grown_below GH1.out (below_drew1 (Below.refl wz.heap.size wz)))
            clear IH1 RH1 BH1 GH1
            generalize wz.drew = wq at IQ0 RQ0 BQ0 GQ0 hHeld ⊢
            have c0 := IQ0.out.c0
            obtain ⟨adk, ek, hk0, hk1, hk2⟩ := at_T44 (Kd.C_below HR.out IQ0.out.b) (j : Int) (by omega) (by omega)
            cases ek
            simp only [Int.toNat_natCast] at hk0 hk1 hk2
            have hcat : ¬ 9223372036854775807 < s.size + (rd_T44 l (j : Int)).f0.size := by have h1 := HSZ.out; have h2 := HSM.out.2 (j : Int) HN.out; omega
            refine pure_ (i := 0) (N := some 127) (v := ?_) (a' := ?_) #[true, false, false, false, false, false, false, false, false, false, false, false, false, false, false, false, false, false] rfl rfl (by kernel_rfl) (fun _ _ _ h => h) (Or.inl ⟨by rfl, ?_⟩) ?_ ?_
            rotate_left
            · intro w'
              go_simp
              with_reducible rfl
            rotate_left
            · simp only [Act.put, List.setIfInBounds_toArray, List.set_cons_zero, List.set_cons_succ, i64_w, i32_w]
              rfl
            refine pure_ (i := 2) (N := some 129) (v := ?_) (a' := ?_) #[true, false, true, false, false, false, false, false, false, false, false, false, false, false, false, false, false, false] rfl rfl (by kernel_rfl) (fun _ _ _ h => h) (Or.inl ⟨by rfl, ?_⟩) ?_ ?_
            rotate_left
            · intro w'
              go_simp
              with_reducible rfl
            rotate_left
            · simp only [Act.put, List.setIfInBounds_toArray, List.set_cons_zero, List.set_cons_succ, i64_w, i32_w]
              rfl
            refine pure_ (i := 4) (N := some 131) (v := ?_) (a' := ?_) #[true, false, true, false, true, false, false, false, false, false, false, false, false, false, false, false, false, false] rfl rfl (by kernel_rfl) (fun _ _ _ h => h) (Or.inl ⟨by rfl, ?_⟩) ?_ ?_
            rotate_left
            · intro w'
              go_simp
              with_reducible rfl
            rotate_left
            · simp only [Act.put, List.setIfInBounds_toArray, List.set_cons_zero, List.set_cons_succ, i64_w, i32_w]
              rfl
            refine pure_ (i := 7) (N := some 134) (v := ?_) (a' := ?_) #[true, false, true, false, true, false, false, true, false, false, false, false, false, false, false, false, false, false] rfl rfl (by kernel_rfl) (fun _ _ _ h => h) (Or.inl ⟨by rfl, ?_⟩) ?_ ?_
            rotate_left
            · intro w'
              go_simp
              with_reducible rfl
            rotate_left
            · simp only [Act.put, List.setIfInBounds_toArray, List.set_cons_zero, List.set_cons_succ, i64_w, i32_w]
              rfl
            refine pure_ (i := 8) (N := some 135) (v := ?_) (a' := ?_) #[true, false, true, false, true, false, false, true, true, false, false, false, false, false, false, false, false, false] rfl rfl (by kernel_rfl) (fun _ _ _ h => h) (Or.inl ⟨by rfl, ?_⟩) ?_ ?_
            rotate_left
            · intro w'
              go_simp
              with_reducible rfl
            rotate_left
            · simp only [Act.put, List.setIfInBounds_toArray, List.set_cons_zero, List.set_cons_succ, i64_w, i32_w]
              rfl
            refine pure_ (i := 9) (N := some 136) (v := ?_) (a' := ?_) #[true, false, true, false, true, false, false, true, true, true, false, false, false, false, false, false, false, false] rfl rfl (by kernel_rfl) (fun _ _ _ h => h) (Or.inl ⟨by rfl, ?_⟩) ?_ ?_
            rotate_left
            · intro w'
              go_simp
              with_reducible rfl
            rotate_left
            · simp only [Act.put, List.setIfInBounds_toArray, List.set_cons_zero, List.set_cons_succ, i64_w, i32_w]
              rfl
            refine pure_ (i := 10) (N := some 137) (v := ?_) (a' := ?_) #[true, false, true, false, true, false, false, true, true, true, true, false, false, false, false, false, false, false] rfl rfl (by kernel_rfl) (fun _ _ _ h => h) (Or.inl ⟨by rfl, ?_⟩) ?_ ?_
            rotate_left
            · intro w'
              go_simp
              with_reducible rfl
            rotate_left
            · simp only [Act.put, List.setIfInBounds_toArray, List.set_cons_zero, List.set_cons_succ, i64_w, i32_w]
              rfl
            refine take_ (i := 11) (N := some 138) (v := ?_) (a' := ?_) #[true, false, true, false, true, false, false, true, true, true, true, true, false, false, false, false, false, false] rfl rfl (by kernel_rfl) (fun _ _ _ h => h) (Or.inl ⟨by rfl, ?_⟩) hHeld ?_ ?_
            rotate_left
            · rintro w' hS
              have q_c0 := bcell hS c0
              have q_hk0 := bcell hS hk0
              go_simp
              with_reducible rfl
            rotate_left
            · simp only [Act.put, List.setIfInBounds_toArray, List.set_cons_zero, List.set_cons_succ, i64_w, i32_w]
              rfl
            refine pure_ (i := 12) (N := some 139) (v := ?_) (a' := ?_) #[true, false, true, false, true, false, false, true, true, true, true, true, true, false, false, false, false, false] rfl rfl (by kernel_rfl) (fun _ _ _ h => h) (Or.inl ⟨by rfl, ?_⟩) ?_ ?_
            rotate_left
            · intro w'
              go_simp
              with_reducible rfl
            rotate_left
            · simp only [Act.put, List.setIfInBounds_toArray, List.set_cons_zero, List.set_cons_succ, i64_w, i32_w]
              rfl
            refine pure_ (i := 13) (N := some 140) (v := ?_) (a' := ?_) #[true, false, true, false, true, false, false, true, true, true, true, true, true, true, false, false, false, false] rfl rfl (by kernel_rfl) (fun _ _ _ h => h) (Or.inl ⟨by rfl, ?_⟩) ?_ ?_
            rotate_left
            · intro w'
              go_simp
              with_reducible rfl
            rotate_left
            · simp only [Act.put, List.setIfInBounds_toArray, List.set_cons_zero, List.set_cons_succ, i64_w, i32_w]
              rfl
            refine pure_ (i := 14) (N := some 141) (v := ?_) (a' := ?_) #[true, false, true, false, true, false, false, true, true, true, true, true, true, true, true, false, false, false] rfl rfl (by kernel_rfl) (fun _ _ _ h => h) (Or.inl ⟨by rfl, ?_⟩) ?_ ?_
            rotate_left
            · intro w'
              go_simp
              with_reducible rfl
            rotate_left
            · simp only [Act.put, List.setIfInBounds_toArray, List.set_cons_zero, List.set_cons_succ, i64_w, i32_w]
              rfl
            refine take_ (i := 15) (N := some 142) (v := ?_) (a' := ?_) #[true, false, true, false, true, false, false, true, true, true, true, true, true, true, true, true, false, false] rfl rfl (by kernel_rfl) (fun _ _ _ h => h) (Or.inl ⟨by rfl, ?_⟩) hHeld ?_ ?_
            rotate_left
            · rintro w' hS
              have q_c0 := bcell hS c0
              have q_hk0 := bcell hS hk0
              go_simp
              with_reducible rfl
            rotate_left
            · simp only [Act.put, List.setIfInBounds_toArray, List.set_cons_zero, List.set_cons_succ, i64_w, i32_w]
              rfl
            refine pure_ (i := 16) (N := some 143) (v := ?_) (a' := ?_) #[true, false, true, false, true, false, false, true, true, true, true, true, true, true, true, true, true, false] rfl rfl (by kernel_rfl) (fun _ _ _ h => h) (Or.inl ⟨by rfl, ?_⟩) ?_ ?_
            rotate_left
            · intro w'
              go_simp
              with_reducible rfl
            rotate_left
            · simp only [Act.put, List.setIfInBounds_toArray, List.set_cons_zero, List.set_cons_succ, i64_w, i32_w]
              rfl
            refine two_ (i := 1) (j := 5) (Ni := some 128) (Nj := some 132) #[true, true, true, false, true, false, false, true, true, true, true, true, true, true, true, true, true, false] #[true, false, true, false, true, true, false, true, true, true, true, true, true, true, true, true, true, false] rfl rfl rfl rfl (by kernel_rfl) (by decide) (by decide) (fun K hK => ?_) (fun K hK => ?_)
            · skip
              refine Kd.R_lit_step (Kd.int .i64) _ 2 ?hgq1 (N := 128) ?hdq1 (xs := ([] : List Int)) (inner := []) (ok := fun _ => True) (okp := fun _ => True) ?hrq1 ?hpq1 (fun _ hk => hk) trivial (Below.refl _ _) (Nat.le_refl _) (by simp) ?_
              (case hdq1 => rfl)
              (case hgq1 => rfl)
              (case hrq1 => first | (go_simp; done) | (go_simp; rfl))
              (case hpq1 => exact (Reps.none _ _))
              intro v1 wz ho hb hg_ hnew_
              have nR1 := Lib.hid (Kd.R_lower (ok := fun k => wq.heap.size ≤ k) (Kd.R_mono (Kd.R_bound ho) (fun k hk => Nat.le_trans hHeld.size hk.2.1)) (Nat.le_trans IQ0.out.b.size hHeld.size))
              clear hg_ hnew_
              have R1 := nR1
              clear nR1 ho
              have hS_ := below_step hHeld hb
              clear hb hHeld
              refine hK.out _ _ hS_ (fun hHeld => ?_)
              clear hK K hS_
              refine norm_ (a' := ?_) ?_ ?_
              rotate_left
              · show Act.put _ (some 128) _ = _
                simp only [Act.put, List.setIfInBounds_toArray, List.set_cons_zero, List.set_cons_succ, i64_w, i32_w]
                rfl
              refine two_ (i := 3) (j := 5) (Ni := some 130) (Nj := some 132) #[true, true, true, true, true, false, false, true, true, true, true, true, true, true, true, true, true, false] #[true, true, true, false, true, true, false, true, true, true, true, true, true, true, true, true, true, false] rfl rfl rfl rfl (by kernel_rfl) (by decide) (by decide) (fun K hK => ?_) (fun K hK => ?_)
              · skip
                refine Kd.R_append_rows_step (Kd.int .i64) (w0 := w0) w0.heap.size (by rfl) (.tmp 128) (.tmp 129) 24 2 (.int .i64 0) 8 rfl Tryd.underlying24 info2' rfl (by decide) (by omega) v1 [] row _ _ _ (fun k => wq.heap.size ≤ k) (fun _ => False) rfl rfl ?aOp2 ?aRp2 (fun _ _ h => h) (fun _ h => h.elim) ?aFp2 ?aBp2 ?aSp2 ?aLp2 ?_
                (case aOp2 => exact R1.out)
                (case aRp2 => exact (Kd.R_reads' (Kd.R_below RQ0.out hHeld)).2.2)
                (case aFp2 => exact fun k hk => Nat.le_trans hHeld.size hk)
                (case aBp2 => exact below_step IQ0.out.b hHeld)
                (case aSp2 => exact (below_step IQ0.out.b hHeld).size)
                (case aLp2 => have := HLEN.out; simp; omega)
                intro v3 wz ho hb2 hg hat
                have hS_ := Below.trans hHeld (grown_append hg wq.heap.size hHeld.size (fun k hk => R1.out.1 k hk))
                have R3 := Lib.hid (show Kd.R (Kd.int .i64) 2 wz w0.heap.size (fun k => wq.heap.size ≤ k) v3 row from ho)
                clear R1
                clear ho hb2 hg hat
                refine hK.out _ _ hS_ (fun hHeld => ?_)
                clear hK K hS_
                refine norm_ (a' := ?_) ?_ ?_
                rotate_left
                · show Act.put _ (some 130) _ = _
                  simp only [Act.put, List.setIfInBounds_toArray, List.set_cons_zero, List.set_cons_succ, i64_w, i32_w]
                  rfl
                refine one_ (i := 5) (N := some 132) #[true, true, true, true, true, true, false, true, true, true, true, true, true, true, true, true, true, false] rfl rfl (by kernel_rfl) (by decide) (fun K hK => ?_)
                refine Kd.R_lit_step (Kd.int .i64) _ 2 ?hgq3 (N := 132) ?hdq3 (xs := ([(j : Int)] : List Int)) (inner := [.int .i64 j]) (ok := fun _ => True) (okp := fun _ => True) ?hrq3 ?hpq3 (fun _ hk => hk) trivial (Below.refl _ _) (Nat.le_refl _) (by simp) ?_
                (case hdq3 => rfl)
                (case hgq3 => rfl)
                (case hrq3 => first | (go_simp; done) | (go_simp; rfl))
                (case hpq3 => exact (Reps.one (show Kd.M (Kd.int .i64) _ _ _ (j : Int) [.int .i64 j] from rfl) (Reps.none _ _)))
                intro v5 wz ho hb hg_ hnew_
                have nRL := Lib.hid (Kd.R_lower (ok := fun k => wq.heap.size ≤ k) (Kd.R_mono (Kd.R_bound ho) (fun k hk => Nat.le_trans hHeld.size hk.2.1)) (Nat.le_trans IQ0.out.b.size hHeld.size))
                clear hg_ hnew_
                have m_R3 := Lib.hid (Kd.R_below R3.out hb)
                clear R3
                have R3 := m_R3
                clear m_R3
                have RL := nRL
                clear nRL ho
                have hS_ := below_step hHeld hb
                clear hb hHeld
                refine hK.out _ _ hS_ (fun hHeld => ?_)
                clear hK K hS_
                refine norm_ (a' := ?_) ?_ ?_
                rotate_left
                · show Act.put _ (some 132) _ = _
                  simp only [Act.put, List.setIfInBounds_toArray, List.set_cons_zero, List.set_cons_succ, i64_w, i32_w]
                  rfl
                refine one_ (i := 6) (N := some 133) #[true, true, true, true, true, true, true, true, true, true, true, true, true, true, true, true, true, false] rfl rfl (by kernel_rfl) (by decide) (fun K hK => ?_)
                obtain ⟨AL, cL, rfl⟩ := Kd.R_slice RL.out
                refine Kd.R_append_rows_step (Kd.int .i64) (w0 := w0) w0.heap.size (by rfl) (.tmp 130) (.tmp 132) 24 2 (.int .i64 0) 8 rfl Tryd.underlying24 info2' rfl (by decide) (by omega) v3 row [(j : Int)] _ _ _ (fun k => wq.heap.size ≤ k) (fun _ => False) rfl rfl ?aOp4 ?aRp4 (fun _ _ h => h) (fun _ h => h.elim) ?aFp4 ?aBp4 ?aSp4 ?aLp4 ?_
                (case aOp4 => exact R3.out)
                (case aRp4 => exact (Kd.R_reads' RL.out).2.2)
                (case aFp4 => exact fun k hk => Nat.le_trans hHeld.size hk)
                (case aBp4 => exact below_step IQ0.out.b hHeld)
                (case aSp4 => exact (below_step IQ0.out.b hHeld).size)
                (case aLp4 => have := HLEN.out; simp; omega)
                intro v6 wz ho hb2 hg hat
                have hS_ := Below.trans hHeld (grown_append hg wq.heap.size hHeld.size (fun k hk => R3.out.1 k hk))
                have R6 := Lib.hid ho
                clear R3 RL
                clear ho hb2 hg hat
                refine hK.out _ _ hS_ (fun hHeld => ?_)
                clear hK K hS_
                refine norm_ (a' := ?_) ?_ ?_
                rotate_left
                · show Act.put _ (some 133) _ = _
                  simp only [Act.put, List.setIfInBounds_toArray, List.set_cons_zero, List.set_cons_succ, i64_w, i32_w]
                  rfl
                refine last_ (i := 17) (N := some 144) #[true, true, true, true, true, true, true, true, true, true, true, true, true, true, true, true, true, true] rfl rfl (by kernel_rfl) (by decide) (fun K hK => ?_)
                refine goes_ Tryd.func15 (by kernel_rfl) rfl #[.pointer (some ⟨gr, 0, none⟩), v6, .string (s ++ (rd_T44 l (j : Int)).f0)] (by rfl) rfl rfl (by (try simp only [List.map_toArray, List.map_cons, List.map_nil]); first | done | rfl | (simp only [List.length_drop, List.length_take]; rfl)) ?_
                have I6 := Lib.hid (IQ0.out.step hHeld)
                have A6 := Lib.hid (Kd.R_mono R6.out (fun k (hk : wq.heap.size ≤ k) => show k ≠ gr from by have h1 := blk_lt IQ0.out.k; omega))
                have B6 := Lib.hid (Kd.R_below BQ0.out hHeld)
                have Q6 := Lib.hid (Kd.R_below RQ0.out hHeld)
                have G6 := Lib.hid (grown_below GQ0.out hHeld)
                with_reducible refine (IH.out (row ++ [(j : Int)]) (longAt l d row best j) v6 vj _ _ HLT2.out HLEN2.out HSZ2.out HALL2.out I6.out A6.out B6.out).mono ?_
                rintro e wz ⟨rfl, vb', hI4, hB4, hG4⟩
                refine ⟨_, rfl, ?_⟩
                have R4 := Lib.hid (row_grown2 Q6.out hG4)
                have G4 := Lib.hid (grown_trans G6.out hG4)
                refine hK.out _ _ ?_
                clear hK K
                refine norm_ (a' := ?_) ?_ ?_
                rotate_left
                · show Act.put _ (some 144) _ = _
                  simp only [Act.put, List.setIfInBounds_toArray, List.set_cons_zero, List.set_cons_succ, i64_w, i32_w]
                  rfl
                refine done_ (by kernel_rfl) ?_
                go_wp2
                go_roundw
                case measure => simp only [intOf]; omega
                case rel => exact ⟨j + 1, vb', by omega, by go_num, Lib.hid hI4, R4, Lib.hid (by rw [ES.out]; exact hB4), G4⟩
              · skip
                refine Kd.R_lit_step (Kd.int .i64) _ 2 ?hgq5 (N := 132) ?hdq5 (xs := ([(j : Int)] : List Int)) (inner := [.int .i64 j]) (ok := fun _ => True) (okp := fun _ => True) ?hrq5 ?hpq5 (fun _ hk => hk) trivial (Below.refl _ _) (Nat.le_refl _) (by simp) ?_
                (case hdq5 => rfl)
                (case hgq5 => rfl)
                (case hrq5 => first | (go_simp; done) | (go_simp; rfl))
                (case hpq5 => exact (Reps.one (show Kd.M (Kd.int .i64) _ _ _ (j : Int) [.int .i64 j] from rfl) (Reps.none _ _)))
                intro v5 wz ho hb hg_ hnew_
                have nRL := Lib.hid (Kd.R_lower (ok := fun k => wq.heap.size ≤ k ∧ some k ≠ v1.ownBlock) (Kd.R_mono (Kd.R_bound ho) (fun k hk => ⟨Nat.le_trans hHeld.size hk.2.1, fun e => by have h5 := ((Kd.R_bound R1.out).1 k e.symm).2.2.1; have h6 := hk.2.1; omega⟩)) (Nat.le_trans IQ0.out.b.size hHeld.size))
                clear hg_ hnew_
                have m_R1 := Lib.hid (Kd.R_below R1.out hb)
                clear R1
                have R1 := m_R1
                clear m_R1
                have RL := nRL
                clear nRL ho
                have hS_ := below_step hHeld hb
                clear hb hHeld
                refine hK.out _ _ hS_ (fun hHeld => ?_)
                clear hK K hS_
                refine norm_ (a' := ?_) ?_ ?_
                rotate_left
                · show Act.put _ (some 132) _ = _
                  simp only [Act.put, List.setIfInBounds_toArray, List.set_cons_zero, List.set_cons_succ, i64_w, i32_w]
                  rfl
                refine one_ (i := 3) (N := some 130) #[true, true, true, true, true, true, false, true, true, true, true, true, true, true, true, true, true, false] rfl rfl (by kernel_rfl) (by decide) (fun K hK => ?_)
                refine Kd.R_append_rows_step (Kd.int .i64) (w0 := w0) w0.heap.size (by rfl) (.tmp 128) (.tmp 129) 24 2 (.int .i64 0) 8 rfl Tryd.underlying24 info2' rfl (by decide) (by omega) v1 [] row _ _ _ (fun k => wq.heap.size ≤ k) (fun _ => False) rfl rfl ?aOp6 ?aRp6 (fun _ _ h => h) (fun _ h => h.elim) ?aFp6 ?aBp6 ?aSp6 ?aLp6 ?_
                (case aOp6 => exact R1.out)
                (case aRp6 => exact (Kd.R_reads' (Kd.R_below RQ0.out hHeld)).2.2)
                (case aFp6 => exact fun k hk => Nat.le_trans hHeld.size hk)
                (case aBp6 => exact below_step IQ0.out.b hHeld)
                (case aSp6 => exact (below_step IQ0.out.b hHeld).size)
                (case aLp6 => have := HLEN.out; simp; omega)
                intro v3 wz ho hb2 hg hat
                have hS_ := Below.trans hHeld (grown_append hg wq.heap.size hHeld.size (fun k hk => R1.out.1 k hk))
                have nRL := Lib.hid (Kd.R_mono (ok' := fun k => wq.heap.size ≤ k) (Kd.R_step RL.out (fun k hok hlt => hg.block k hlt hok.2)) (fun k hk => hk.1))
                clear RL
                have RL := nRL
                clear nRL
                have R3 := Lib.hid (show Kd.R (Kd.int .i64) 2 wz w0.heap.size (fun k => wq.heap.size ≤ k) v3 row from ho)
                clear R1
                clear ho hb2 hg hat
                refine hK.out _ _ hS_ (fun hHeld => ?_)
                clear hK K hS_
                refine norm_ (a' := ?_) ?_ ?_
                rotate_left
                · show Act.put _ (some 130) _ = _
                  simp only [Act.put, List.setIfInBounds_toArray, List.set_cons_zero, List.set_cons_succ, i64_w, i32_w]
                  rfl
                refine one_ (i := 6) (N := some 133) #[true, true, true, true, true, true, true, true, true, true, true, true, true, true, true, true, true, false] rfl rfl (by kernel_rfl) (by decide) (fun K hK => ?_)
                obtain ⟨AL, cL, rfl⟩ := Kd.R_slice RL.out
                refine Kd.R_append_rows_step (Kd.int .i64) (w0 := w0) w0.heap.size (by rfl) (.tmp 130) (.tmp 132) 24 2 (.int .i64 0) 8 rfl Tryd.underlying24 info2' rfl (by decide) (by omega) v3 row [(j : Int)] _ _ _ (fun k => wq.heap.size ≤ k) (fun _ => False) rfl rfl ?aOp7 ?aRp7 (fun _ _ h => h) (fun _ h => h.elim) ?aFp7 ?aBp7 ?aSp7 ?aLp7 ?_
                (case aOp7 => exact R3.out)
                (case aRp7 => exact (Kd.R_reads' RL.out).2.2)
                (case aFp7 => exact fun k hk => Nat.le_trans hHeld.size hk)
                (case aBp7 => exact below_step IQ0.out.b hHeld)
                (case aSp7 => exact (below_step IQ0.out.b hHeld).size)
                (case aLp7 => have := HLEN.out; simp; omega)
                intro v6 wz ho hb2 hg hat
                have hS_ := Below.trans hHeld (grown_append hg wq.heap.size hHeld.size (fun k hk => R3.out.1 k hk))
                have R6 := Lib.hid ho
                clear R3 RL
                clear ho hb2 hg hat
                refine hK.out _ _ hS_ (fun hHeld => ?_)
                clear hK K hS_
                refine norm_ (a' := ?_) ?_ ?_
                rotate_left
                · show Act.put _ (some 133) _ = _
                  simp only [Act.put, List.setIfInBounds_toArray, List.set_cons_zero, List.set_cons_succ, i64_w, i32_w]
                  rfl
                refine last_ (i := 17) (N := some 144) #[true, true, true, true, true, true, true, true, true, true, true, true, true, true, true, true, true, true] rfl rfl (by kernel_rfl) (by decide) (fun K hK => ?_)
                refine goes_ Tryd.func15 (by kernel_rfl) rfl #[.pointer (some ⟨gr, 0, none⟩), v6, .string (s ++ (rd_T44 l (j : Int)).f0)] (by rfl) rfl rfl (by (try simp only [List.map_toArray, List.map_cons, List.map_nil]); first | done | rfl | (simp only [List.length_drop, List.length_take]; rfl)) ?_
                have I6 := Lib.hid (IQ0.out.step hHeld)
                have A6 := Lib.hid (Kd.R_mono R6.out (fun k (hk : wq.heap.size ≤ k) => show k ≠ gr from by have h1 := blk_lt IQ0.out.k; omega))
                have B6 := Lib.hid (Kd.R_below BQ0.out hHeld)
                have Q6 := Lib.hid (Kd.R_below RQ0.out hHeld)
                have G6 := Lib.hid (grown_below GQ0.out hHeld)
                with_reducible refine (IH.out (row ++ [(j : Int)]) (longAt l d row best j) v6 vj _ _ HLT2.out HLEN2.out HSZ2.out HALL2.out I6.out A6.out B6.out).mono ?_
                rintro e wz ⟨rfl, vb', hI4, hB4, hG4⟩
                refine ⟨_, rfl, ?_⟩
                have R4 := Lib.hid (row_grown2 Q6.out hG4)
                have G4 := Lib.hid (grown_trans G6.out hG4)
                refine hK.out _ _ ?_
                clear hK K
                refine norm_ (a' := ?_) ?_ ?_
                rotate_left
                · show Act.put _ (some 144) _ = _
                  simp only [Act.put, List.setIfInBounds_toArray, List.set_cons_zero, List.set_cons_succ, i64_w, i32_w]
                  rfl
                refine done_ (by kernel_rfl) ?_
                go_wp2
                go_roundw
                case measure => simp only [intOf]; omega
                case rel => exact ⟨j + 1, vb', by omega, by go_num, Lib.hid hI4, R4, Lib.hid (by rw [ES.out]; exact hB4), G4⟩
            · skip
              refine Kd.R_lit_step (Kd.int .i64) _ 2 ?hgq8 (N := 132) ?hdq8 (xs := ([(j : Int)] : List Int)) (inner := [.int .i64 j]) (ok := fun _ => True) (okp := fun _ => True) ?hrq8 ?hpq8 (fun _ hk => hk) trivial (Below.refl _ _) (Nat.le_refl _) (by simp) ?_
              (case hdq8 => rfl)
              (case hgq8 => rfl)
              (case hrq8 => first | (go_simp; done) | (go_simp; rfl))
              (case hpq8 => exact (Reps.one (show Kd.M (Kd.int .i64) _ _ _ (j : Int) [.int .i64 j] from rfl) (Reps.none _ _)))
              intro v5 wz ho hb hg_ hnew_
              have nRL := Lib.hid (Kd.R_lower (ok := fun k => wq.heap.size ≤ k) (Kd.R_mono (Kd.R_bound ho) (fun k hk => Nat.le_trans hHeld.size hk.2.1)) (Nat.le_trans IQ0.out.b.size hHeld.size))
              clear hg_ hnew_
              have RL := nRL
              clear nRL ho
              have hS_ := below_step hHeld hb
              clear hb hHeld
              refine hK.out _ _ hS_ (fun hHeld => ?_)
              clear hK K hS_
              refine norm_ (a' := ?_) ?_ ?_
              rotate_left
              · show Act.put _ (some 132) _ = _
                simp only [Act.put, List.setIfInBounds_toArray, List.set_cons_zero, List.set_cons_succ, i64_w, i32_w]
                rfl
              refine one_ (i := 1) (N := some 128) #[true, true, true, false, true, true, false, true, true, true, true, true, true, true, true, true, true, false] rfl rfl (by kernel_rfl) (by decide) (fun K hK => ?_)
              refine Kd.R_lit_step (Kd.int .i64) _ 2 ?hgq9 (N := 128) ?hdq9 (xs := ([] : List Int)) (inner := []) (ok := fun _ => True) (okp := fun _ => True) ?hrq9 ?hpq9 (fun _ hk => hk) trivial (Below.refl _ _) (Nat.le_refl _) (by simp) ?_
              (case hdq9 => rfl)
              (case hgq9 => rfl)
              (case hrq9 => first | (go_simp; done) | (go_simp; rfl))
              (case hpq9 => exact (Reps.none _ _))
              intro v1 wz ho hb hg_ hnew_
              have nR1 := Lib.hid (Kd.R_lower (ok := fun k => wq.heap.size ≤ k) (Kd.R_mono (Kd.R_bound ho) (fun k hk => Nat.le_trans hHeld.size hk.2.1)) (Nat.le_trans IQ0.out.b.size hHeld.size))
              have uRL := Lib.hid (Kd.R_mono (ok' := fun k => wq.heap.size ≤ k ∧ some k ≠ v1.ownBlock) (Kd.R_bound RL.out) (fun k hk => ⟨hk.1, fun e => by obtain ⟨b5, h5, h6⟩ := hnew_; rw [h5] at e; have h7 := Option.some.inj e; have h8 := hk.2.2.1; omega⟩))
              clear RL
              have RL := uRL
              clear uRL
              clear hg_ hnew_
              have m_RL := Lib.hid (Kd.R_below RL.out hb)
              clear RL
              have RL := m_RL
              clear m_RL
              have R1 := nR1
              clear nR1 ho
              have hS_ := below_step hHeld hb
              clear hb hHeld
              refine hK.out _ _ hS_ (fun hHeld => ?_)
              clear hK K hS_
              refine norm_ (a' := ?_) ?_ ?_
              rotate_left
              · show Act.put _ (some 128) _ = _
                simp only [Act.put, List.setIfInBounds_toArray, List.set_cons_zero, List.set_cons_succ, i64_w, i32_w]
                rfl
              refine one_ (i := 3) (N := some 130) #[true, true, true, true, true, true, false, true, true, true, true, true, true, true, true, true, true, false] rfl rfl (by kernel_rfl) (by decide) (fun K hK => ?_)
              refine Kd.R_append_rows_step (Kd.int .i64) (w0 := w0) w0.heap.size (by rfl) (.tmp 128) (.tmp 129) 24 2 (.int .i64 0) 8 rfl Tryd.underlying24 info2' rfl (by decide) (by omega) v1 [] row _ _ _ (fun k => wq.heap.size ≤ k) (fun _ => False) rfl rfl ?aOp10 ?aRp10 (fun _ _ h => h) (fun _ h => h.elim) ?aFp10 ?aBp10 ?aSp10 ?aLp10 ?_
              (case aOp10 => exact R1.out)
              (case aRp10 => exact (Kd.R_reads' (Kd.R_below RQ0.out hHeld)).2.2)
              (case aFp10 => exact fun k hk => Nat.le_trans hHeld.size hk)
              (case aBp10 => exact below_step IQ0.out.b hHeld)
              (case aSp10 => exact (below_step IQ0.out.b hHeld).size)
              (case aLp10 => have := HLEN.out; simp; omega)
              intro v3 wz ho hb2 hg hat
              have hS_ := Below.trans hHeld (grown_append hg wq.heap.size hHeld.size (fun k hk => R1.out.1 k hk))
              have nRL := Lib.hid (Kd.R_mono (ok' := fun k => wq.heap.size ≤ k) (Kd.R_step RL.out (fun k hok hlt => hg.block k hlt hok.2)) (fun k hk => hk.1))
              clear RL
              have RL := nRL
              clear nRL
              have R3 := Lib.hid (show Kd.R (Kd.int .i64) 2 wz w0.heap.size (fun k => wq.heap.size ≤ k) v3 row from ho)
              clear R1
              clear ho hb2 hg hat
              refine hK.out _ _ hS_ (fun hHeld => ?_)
              clear hK K hS_
              refine norm_ (a' := ?_) ?_ ?_
              rotate_left
              · show Act.put _ (some 130) _ = _
                simp only [Act.put, List.setIfInBounds_toArray, List.set_cons_zero, List.set_cons_succ, i64_w, i32_w]
                rfl
              refine one_ (i := 6) (N := some 133) #[true, true, true, true, true, true, true, true, true, true, true, true, true, true, true, true, true, false] rfl rfl (by kernel_rfl) (by decide) (fun K hK => ?_)
              obtain ⟨AL, cL, rfl⟩ := Kd.R_slice RL.out
              refine Kd.R_append_rows_step (Kd.int .i64) (w0 := w0) w0.heap.size (by rfl) (.tmp 130) (.tmp 132) 24 2 (.int .i64 0) 8 rfl Tryd.underlying24 info2' rfl (by decide) (by omega) v3 row [(j : Int)] _ _ _ (fun k => wq.heap.size ≤ k) (fun _ => False) rfl rfl ?aOp11 ?aRp11 (fun _ _ h => h) (fun _ h => h.elim) ?aFp11 ?aBp11 ?aSp11 ?aLp11 ?_
              (case aOp11 => exact R3.out)
              (case aRp11 => exact (Kd.R_reads' RL.out).2.2)
              (case aFp11 => exact fun k hk => Nat.le_trans hHeld.size hk)
              (case aBp11 => exact below_step IQ0.out.b hHeld)
              (case aSp11 => exact (below_step IQ0.out.b hHeld).size)
              (case aLp11 => have := HLEN.out; simp; omega)
              intro v6 wz ho hb2 hg hat
              have hS_ := Below.trans hHeld (grown_append hg wq.heap.size hHeld.size (fun k hk => R3.out.1 k hk))
              have R6 := Lib.hid ho
              clear R3 RL
              clear ho hb2 hg hat
              refine hK.out _ _ hS_ (fun hHeld => ?_)
              clear hK K hS_
              refine norm_ (a' := ?_) ?_ ?_
              rotate_left
              · show Act.put _ (some 133) _ = _
                simp only [Act.put, List.setIfInBounds_toArray, List.set_cons_zero, List.set_cons_succ, i64_w, i32_w]
                rfl
              refine last_ (i := 17) (N := some 144) #[true, true, true, true, true, true, true, true, true, true, true, true, true, true, true, true, true, true] rfl rfl (by kernel_rfl) (by decide) (fun K hK => ?_)
              refine goes_ Tryd.func15 (by kernel_rfl) rfl #[.pointer (some ⟨gr, 0, none⟩), v6, .string (s ++ (rd_T44 l (j : Int)).f0)] (by rfl) rfl rfl (by (try simp only [List.map_toArray, List.map_cons, List.map_nil]); first | done | rfl | (simp only [List.length_drop, List.length_take]; rfl)) ?_
              have I6 := Lib.hid (IQ0.out.step hHeld)
              have A6 := Lib.hid (Kd.R_mono R6.out (fun k (hk : wq.heap.size ≤ k) => show k ≠ gr from by have h1 := blk_lt IQ0.out.k; omega))
              have B6 := Lib.hid (Kd.R_below BQ0.out hHeld)
              have Q6 := Lib.hid (Kd.R_below RQ0.out hHeld)
              have G6 := Lib.hid (grown_below GQ0.out hHeld)
              with_reducible refine (IH.out (row ++ [(j : Int)]) (longAt l d row best j) v6 vj _ _ HLT2.out HLEN2.out HSZ2.out HALL2.out I6.out A6.out B6.out).mono ?_
              rintro e wz ⟨rfl, vb', hI4, hB4, hG4⟩
              refine ⟨_, rfl, ?_⟩
              have R4 := Lib.hid (row_grown2 Q6.out hG4)
              have G4 := Lib.hid (grown_trans G6.out hG4)
              refine hK.out _ _ ?_
              clear hK K
              refine norm_ (a' := ?_) ?_ ?_
              rotate_left
              · show Act.put _ (some 144) _ = _
                simp only [Act.put, List.setIfInBounds_toArray, List.set_cons_zero, List.set_cons_succ, i64_w, i32_w]
                rfl
              refine done_ (by kernel_rfl) ?_
              go_wp2
              go_roundw
              case measure => simp only [intOf]; omega
              case rel => exact ⟨j + 1, vb', by omega, by go_num, Lib.hid hI4, R4, Lib.hid (by rw [ES.out]; exact hB4), G4⟩
    · have hjl2 : ¬ (j : Int) < (l.length : Int) := by omega
      obtain rfl : j = l.length := by omega
      go_wp2
      (try simp only [Exit.inBlock, Exit.then])
      refine bodyPost_end (results_none rfl _ _ _) rfl ?_
      exact ⟨rfl, vj, IV.out, BV.out, GV.out⟩
end Go.Proofs.YtfgifjdapojheaaDoor.Q
