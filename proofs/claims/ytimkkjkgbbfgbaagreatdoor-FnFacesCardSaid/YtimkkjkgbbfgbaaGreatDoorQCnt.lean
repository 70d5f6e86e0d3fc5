-- Joined by joinmods.py out of: Bytes QhandCountLetters QspecCountLetters QpureWordsB QpureSaid QpureDraw
import Derived.Test.YtimkkjkgbbfgbaaGreatDoorWLess
import Derived.Lib.ConvBytes
import Derived.WalkKit
import Derived.Test.YtimkkjkgbbfgbaaGreatDoorQValid
import Derived.Outline
import Derived.Lib.Hide
import Derived.Test.YtimkkjkgbbfgbaaGreatDoorQ0
import Derived.Test.YtimkkjkgbbfgbaaGreatDoorQText
import Derived.Test.YtimkkjkgbbfgbaaGreatDoorQWd
import Derived.Test.YtimkkjkgbbfgbaaGreatDoorQJoin
import Derived.Test.YtimkkjkgbbfgbaaGreatDoorQSaidS
import Derived.Test.YtimkkjkgbbfgbaaGreatDoorQDrawS
import Derived.Laws.BitsAllLaws
section
/- A row of bytes that '[]byte(s)' made: its cells, a store into it, what it reads as; no condition. -/
namespace Go.Proofs.YtimkkjkgbbfgbaaGreatDoor.Bytes
open Go.RowKit Go.Proofs.YtimkkjkgbbfgbaaGreatDoorW.PrintWords
set_option linter.unusedVariables false

/-- Block g is the row of a conversion: cap cells of type e, the first of them these bytes. -/
structure BRow (e : TypeId) (w : World) (g cap : Nat) (xs : List Int) : Prop where
  le : xs.length ≤ cap
  row : ∃ cs : Array Value, w.heap[g]? = some (.cells cs e (cap, cap + 1)) ∧ cs.size = cap ∧ ∀ (i : Nat) (x : Int), xs[i]? = some x → cs[i]? = some (.int .u8 x)

theorem bytesOf_get (s : ByteArray) (i : Nat) (h : i < s.size) : (bytesOf s)[i]? = some (bt s i) := by
  simp [bytesOf, bt, h]
  rfl
theorem made (w : World) (e : TypeId) (s : ByteArray) (h : s.size ≤ grownCap w s.size 0 e) : BRow e (Lib.bytesWorld w e s) w.heap.size (grownCap w s.size 0 e) (bytesOf s) := by
  have hsz : (Lib.bytesCells w e s).size = grownCap w s.size 0 e := by
    simp only [Lib.bytesCells, Array.size_append, Array.size_map, Array.size_replicate]
    have : s.data.size = s.size := rfl
    omega
  refine ⟨by rw [bytesOf_length]; exact h, _, ?_, hsz, fun i x hx => ?_⟩
  · rw [Lib.bytesWorld_at_new, hsz]
  · have hi : i < (bytesOf s).length := (List.getElem?_eq_some_iff.1 hx).1
    rw [bytesOf_length] at hi
    have hi' : i < s.data.size := hi
    rw [bytesOf_get s i hi] at hx
    cases hx
    simp [Lib.bytesCells, Array.getElem?_append, bt, hi]
    rfl
theorem below_bytes (w : World) (e : TypeId) (s : ByteArray) : Below w.heap.size w (Lib.bytesWorld w e s) :=
  ⟨rfl, rfl, rfl, by rw [Lib.bytesWorld_size]; omega, fun i hi => Lib.bytesWorld_at_old w e s i hi⟩

section
variable {e : TypeId} {w w1 : World} {g cap : Nat} {xs : List Int}
theorem BRow.lt (h : BRow e w g cap xs) : g < w.heap.size := by
  obtain ⟨cs, hc, _⟩ := h.row
  exact (Array.getElem?_eq_some_iff.1 hc).1
theorem BRow.cell (h : BRow e w g cap xs) (i : Nat) (hi : i < xs.length) : w.cell? ⟨g, i, none⟩ = some (.int .u8 (xs.getD i 0)) := by
  obtain ⟨cs, hc, hs, hx⟩ := h.row
  rw [cell_of_row w g i cs e (cap, cap + 1) hc]
  exact hx i _ (by rw [List.getD_eq_getElem?_getD, List.getElem?_eq_getElem hi]; rfl)
theorem BRow.frozen (h : BRow e w g cap xs) (i : Nat) (hi : i < xs.length) : w.frozen? ⟨g, i, none⟩ = false := by
  obtain ⟨cs, hc, hs, hx⟩ := h.row
  have := h.le
  simp [World.frozen?, hc]
  omega
theorem BRow.below (h : BRow e w g cap xs) (hb : Below w.heap.size w w1) : BRow e w1 g cap xs := by
  obtain ⟨cs, hc, hs, hx⟩ := h.row
  exact ⟨h.le, cs, (hb.block g h.lt).trans hc, hs, hx⟩
theorem BRow.same (h : BRow e w g cap xs) (hb : w1.heap[g]? = w.heap[g]?) : BRow e w1 g cap xs := by
  obtain ⟨cs, hc, hs, hx⟩ := h.row
  exact ⟨h.le, cs, hb.trans hc, hs, hx⟩
theorem BRow.drewN (h : BRow e w g cap xs) (n : Nat) : BRow e (w.drewN n) g cap xs := h.same rfl
theorem BRow.drew (h : BRow e w g cap xs) : BRow e w.drew g cap xs := h.same rfl
theorem BRow.set (h : BRow e w g cap xs) (i : Nat) (hi : i < xs.length) (x : Int) : BRow e (w.setCell ⟨g, i, none⟩ (.int .u8 x)) g cap (xs.set i x) := by
  obtain ⟨cs, hc, hs, hx⟩ := h.row
  refine ⟨by rw [List.length_set]; exact h.le, cs.setIfInBounds i (.int .u8 x), ?_, by simp [hs], fun j y hy => ?_⟩
  · have hlt := h.lt
    simp [World.setCell, Array.getElem?_modify, hc]
  · have hle := h.le
    by_cases hj : j = i
    · subst hj
      rw [List.getElem?_set_self hi] at hy
      cases hy
      simp [show j < cs.size by omega]
    · rw [List.getElem?_set_ne (Ne.symm hj)] at hy
      rw [Array.getElem?_setIfInBounds_ne (Ne.symm hj)]
      exact hx j y hy
theorem BRow.string {P : Program} (h : BRow e w g cap xs) {src e' dst : TypeId} (hs : P.underlying src = some (.slice e')) (he : P.underlying e' = some (.int .u8)) (hd : P.underlying dst = some .string) (c : Nat) (n : Nat) (hn : xs.length = n) :
    (convert src dst (.slice (some ⟨g, 0, none⟩) n c)).run P w = .ok (.string (strOfNums xs)) w := by
  subst hn
  exact run_convert_bytes_arg w src e' hs he g 0 xs.length c xs rfl (fun i hi => by rw [Nat.zero_add]; exact h.cell i hi) dst hd
end
/-- One block has been written, and nothing else. -/
structure OnlyAt (g : Nat) (w w1 : World) : Prop where
  os : w1.os = w.os
  tape : w1.tape = w.tape
  output : w1.output = w.output
  size : w1.heap.size = w.heap.size
  block : ∀ i, i ≠ g → w1.heap[i]? = w.heap[i]?
theorem OnlyAt.refl (g : Nat) (w : World) : OnlyAt g w w := ⟨rfl, rfl, rfl, rfl, fun _ _ => rfl⟩
theorem OnlyAt.drewN {g : Nat} {w w1 : World} (h : OnlyAt g w w1) (n : Nat) : OnlyAt g w (w1.drewN n) := ⟨h.os, h.tape, h.output, h.size, h.block⟩
theorem OnlyAt.drew {g : Nat} {w w1 : World} (h : OnlyAt g w w1) : OnlyAt g w w1.drew := ⟨h.os, h.tape, h.output, h.size, h.block⟩
theorem OnlyAt.set {g : Nat} {w w1 : World} (h : OnlyAt g w w1) (i : Nat) (v : Value) : OnlyAt g w (w1.setCell ⟨g, i, none⟩ v) :=
  ⟨h.os, h.tape, h.output, by simp [World.setCell, h.size], fun j hj => by
    rw [← h.block j hj]
    simp [World.setCell, Array.getElem?_modify, Ne.symm hj]⟩
theorem OnlyAt.below {B g : Nat} {w0 w w1 : World} (h : OnlyAt g w w1) (hb : Below B w0 w) (hg : B ≤ g) : Below B w0 w1 :=
  ⟨h.os.trans hb.os, h.tape.trans hb.tape, h.output.trans hb.output, by rw [h.size]; exact hb.size, fun i hi => (h.block i (by omega)).trans (hb.block i hi)⟩
end Go.Proofs.YtimkkjkgbbfgbaaGreatDoor.Bytes
end
section
/- impl.CountLetters is walked. -/
namespace Go.Proofs.YtimkkjkgbbfgbaaGreatDoor.Q
open Go.RowKit Go.Proofs.YtimkkjkgbbfgbaaGreatDoorW.PrintWords Go.Proofs.YtimkkjkgbbfgbaaGreatDoorW.PrintLast Go.Proofs.YtimkkjkgbbfgbaaGreatDoorW.PrintMore
open Go.Proofs.YtimkkjkgbbfgbaaGreatDoor.Pure Go.Proofs.YtimkkjkgbbfgbaaGreatDoor.Bytes
set_option linter.unusedVariables false

def addL (c : List Int) (b : Int) : List Int := c.set (b - 65).toNat (wrap64 (rd c (b - 65) + 1))
/-- The counts after the first k bytes. -/
def cntL (xs : List Int) (k : Nat) : List Int := (xs.take k).foldl addL (List.replicate 26 0)
theorem addL_len (c : List Int) (b : Int) : (addL c b).length = c.length := by simp [addL]
theorem foldl_addL_len : ∀ (xs c : List Int), (xs.foldl addL c).length = c.length := by
  intro xs
  induction xs with
  | nil => intro c; rfl
  | cons x xs ih => intro c; rw [List.foldl_cons, ih, addL_len]
theorem cntL_len (xs : List Int) (k : Nat) : (cntL xs k).length = 26 := by
  unfold cntL
  rw [foldl_addL_len, List.length_replicate]
theorem cntL_step (xs : List Int) (k : Nat) (h : k < xs.length) : cntL xs (k + 1) = addL (cntL xs k) xs[k] := by
  unfold cntL
  rw [List.take_succ_eq_append_getElem h, List.foldl_append]
  rfl
def countM (a : ByteArray) : List Int × Int := if textB a = true then (cntL (bytesOf (strip a)) (strip a).size, 0) else ([], 1)
def impl_CountLetters.f (a : ByteArray) : Option (List Int × Int) := some (countM a)

set_option maxHeartbeats 2000000 in
theorem impl_CountLetters.calls (a0 : ByteArray) (r1 : List Int) (r2 : Int) (w : World) (hG_ : Glob w) (h : impl_CountLetters.f a0 = some (r1, r2)) :
    Calls Tryz.prog 24 #[.string a0] w fun e w' => ∃ v0_ : Value, e = .returned (.tuple #[v0_, .int .i64 r2]) ∧ Kd.R (Kd.int .i64) 2 w' w.heap.size (fun _ => True) v0_ r1 ∧ Below w.heap.size w w' := by
  replace h := Option.some.inj h
  unfold countM at h
  have HG := Lib.hid hG_
  clear hG_
  have htext := Lib.hid (impl_ValidText.calls 61 a0 (textB a0) w HG.out (by
    by_cases h : a0.size ≤ 60
    · exact at_rounds (impl_ValidText.mono a0) (by omega) (impl_ValidText.val a0 (by omega))
    · unfold impl_ValidText.f textB
      rw [if_neg (by omega)]
      simp [show ¬ ((a0.size : Int) ≤ 60) by omega]))
  cases ht : textB a0 with
  | false =>
    rw [ht] at htext h
    simp only [Bool.false_eq_true, if_false, Prod.mk.injEq] at h
    obtain ⟨rfl, rfl⟩ := h
    go_enter Tryz.func24, Tryz.ntmps24
    go_wp2_with (refine htext.out.mono ?_; rintro e w' ⟨rfl, hb⟩)
    go_ret2
    exact ⟨_, rfl, Kd.R_nil _ _ _ _ _, hb⟩
  | true =>
    have hsm := text_small ht
    have hst := strip_size a0
    rw [ht] at htext h
    simp only [if_true, Prod.mk.injEq] at h
    obtain ⟨rfl, rfl⟩ := h
    have hlet := fun (W : World) (hW : Below w.heap.size w W) => impl_lettersOf.calls a0 (strip a0) W (HG.out.step hW) (impl_lettersOf.val a0 (by omega))
    have HL := Lib.hid hlet
    have HS := Lib.hid (fun k hk => strip_letter ht k hk)
    clear hlet ht
    generalize strip a0 = s at *
    have hcv := fun W => Lib.run_convert_string_bytes (P := Tryz.prog) W 9 22 5 s (u := .string) Tryz.underlying9 Tryz.underlying22 Tryz.underlying5
    go_enter Tryz.func24, Tryz.ntmps24
    go_wp2_with (first | (refine htext.out.mono ?_; rintro e w1 ⟨rfl, hb1⟩; have HB1 := Lib.hid hb1; clear hb1) | ((with_reducible refine gate_dst (N := 10) rfl ?_); refine Kd.R_make (Kd.int .i64) _ 2 rfl (N := 10) rfl 50 _ _ rfl 26 rfl rfl Tryz.underlying50 (.int .i64 0) 8 info2 rfl (by decide) (by omega) 0 (ok := fun _ => True) (okp := fun _ => True) rfl (fun _ hk => hk) trivial (by omega) (by omega) (Below.refl _ _) (Nat.le_refl _) ?_; intro v w5 ho hb hg_ hnew_; clear hg_ hnew_; obtain ⟨g, cap, ev, gb, gl, _⟩ := Kd.R_form ho (by simp); rw [show (List.replicate (26 : Int).toNat (0 : Int)).length = 26 from by simp] at ev; subst ev; have HO := Lib.hid ho; have HB5 := Lib.hid (below_step HB1.out hb); have GL := Lib.hid gl; have GB := Lib.hid gb; clear ho hb gl gb) | (refine (HL.out _ HB5.out).mono ?_; rintro e w6 ⟨rfl, hb6⟩; have HO6 := Lib.hid (Kd.R_below HO.out hb6); have HB6 := Lib.hid (below_step HB5.out hb6); have GL6 := Lib.hid (Nat.lt_of_lt_of_le GL.out hb6.size); clear hb6))
    go_loopw [15] (fun i wr => ∃ k : Nat, k ≤ s.size ∧ i = .int .i64 k ∧ BRow 5 wr w6.heap.size (grownCap w6 s.size 0 5) (bytesOf s) ∧ RowKit.Hid (Kd.R (Kd.int .i64) 2 wr w1.heap.size (fun _ => True) (.slice (some ⟨g, 0, none⟩) 26 cap) (cntL (bytesOf s) k)) ∧ RowKit.Hid (Below w.heap.size w wr)) (fun i _ => s.size - (intOf i).toNat)
    case atStart => exact ⟨0, Nat.zero_le _, rfl, made w6 _ s (grownCap_ge w6 s.size 0 _), Lib.hid (Kd.R_below HO6.out (below_bytes w6 _ s)), Lib.hid (below_step HB6.out (below_bytes w6 _ s))⟩
    case round =>
      obtain ⟨k, hk, rfl, hB, HR, HW⟩ := hrel
      by_cases hlt : k < s.size
      · have hlt2 : (k : Int) < (s.size : Int) := by omega
        have hx := hB.cell k (by rw [bytesOf_length]; exact hlt)
        have hget : (bytesOf s).getD k 0 = bt s k := by rw [List.getD_eq_getElem?_getD, bytesOf_get s k hlt]; rfl
        rw [hget] at hx
        have hl := HS.out k hlt
        unfold isL at hl
        simp only [Bool.and_eq_true, decide_eq_true_iff] at hl
        obtain ⟨m, hm⟩ : ∃ m : Nat, bt s k = 65 + m := ⟨(bt s k - 65).toNat, by omega⟩
        have hm26 : m < 26 := by omega
        have M := Lib.hid hm
        rw [hm] at hx
        clear hm hl
        obtain ⟨hy, hz⟩ := Kd.R_celln 0 HR.out (m : Int) (by omega) (by omega)
        have hput := Kd.R_putg HR.out (m : Int) (wrap64 (rd (cntL (bytesOf s) k) (m : Int) + 1))
        have HP := Lib.hid hput
        clear hput
        simp only [Int.toNat_natCast] at hy hz
        go_wp2
        go_roundw
        case measure => simp only [intOf]; omega
        case rel =>
          refine ⟨k + 1, by omega, by go_num, hB.same ?_, Lib.hid ?_, Lib.hid (HW.out.setCell (Nat.le_trans HB1.out.size GB.out) _)⟩
          · have hne : g ≠ w6.heap.size := by have := GL6.out; omega
            simp [World.setCell, Array.getElem?_modify, hne]
          · have hst2 := cntL_step (bytesOf s) k (by rw [bytesOf_length]; exact hlt)
            rw [bytesOf_at s k hlt] at hst2
            unfold addL at hst2
            rw [M.out, show (65 : Int) + m - 65 = m by omega] at hst2
            rw [hst2]
            exact HP.out.1
      · have hlt2 : ¬ (k : Int) < (s.size : Int) := by omega
        have E : k = s.size := by omega
        have HR2 := Lib.hid (E ▸ HR.out)
        clear E
        go_wp2
        go_ret2
        exact ⟨_, rfl, Kd.R_lower HR2.out HB1.out.size, HW.out⟩
end Go.Proofs.YtimkkjkgbbfgbaaGreatDoor.Q
end
section
-- WRITTEN BY A PROGRAM OF THIS SESSION (xprint.py, which runs the kit's printer with changes). Lean checks it.
namespace Go.Proofs.YtimkkjkgbbfgbaaGreatDoor.Q
open Go.RowKit Go.Proofs.YtimkkjkgbbfgbaaGreatDoorW.PrintWords Go.Proofs.YtimkkjkgbbfgbaaGreatDoorW.PrintLast Go.Proofs.YtimkkjkgbbfgbaaGreatDoorW.PrintMore
set_option linter.unusedVariables false
set_option linter.unusedSimpArgs false
attribute [local go_sem] max2_int min2_int max_two min_two max_three min_three max_four min_four   -- for this text's walks alone
/-! ### spec_CountLetters: function 25 -/
def spec_CountLetters.l0 : Nat → ByteArray → List Int → Int → Option (List Int × Int)
  | 0, _, _, _ => none
  | k + 1, x0, x4, x5 => if x5 < (x0.size : Int) then (if 0 ≤ x5 then (if (bt x0 x5) = 32 then (spec_CountLetters.l0 k x0 x4 (wrap64 (x5 + 1))) else (if 0 ≤ (((bt x0 x5) - 65) % 256) then (if (((bt x0 x5) - 65) % 256) < (x4.length : Int) then (spec_CountLetters.l0 k x0 (x4.set ((((bt x0 x5) - 65) % 256) : Int).toNat (wrap64 ((rd x4 (((bt x0 x5) - 65) % 256)) + 1))) (wrap64 (x5 + 1))) else (none)) else (none))) else (none)) else (some (x4, 0))
def spec_CountLetters.f (k : Nat) (a0 : ByteArray) : Option (List Int × Int) := (spec_l01Text.f k a0).bind fun t323 => (if t323 = true then (if 26 ≤ 35184372088832 then (spec_CountLetters.l0 k a0 (List.replicate 26 0) 0) else (none)) else (some ((([] : List Int)), 1)))
theorem spec_CountLetters.mono_l : ∀ k, (∀ y0 y1 y2, LeO (spec_CountLetters.l0 k y0 y1 y2) (spec_CountLetters.l0 (k + 1) y0 y1 y2))
  | 0 => fun _ _ _ r h => by simp [spec_CountLetters.l0] at h
  | k + 1 => by
    have ih0 := spec_CountLetters.mono_l k
    · intro y0 y1 y2
      unfold spec_CountLetters.l0
      repeat' first
      | (with_reducible exact ih0 _ _ _)
      | (with_reducible exact spec_l01Text.mono _ _)
      | (with_reducible exact LeO.refl _)
      | (with_reducible exact LeO.none _)
      | (with_reducible refine LeO.ite ?_ ?_)
      | (with_reducible refine LeO.bind ?_ (fun _ => ?_))
      | exact ih0 _ _ _
      | exact spec_l01Text.mono _ _
      | exact LeO.none _
      | refine LeO.ite ?_ ?_
      | refine LeO.bind ?_ (fun _ => ?_)
theorem spec_CountLetters.mono : ∀ a0 k, LeO (spec_CountLetters.f k a0) (spec_CountLetters.f (k + 1) a0) := by
  intro a0 k
  have ih0 := spec_CountLetters.mono_l k
  unfold spec_CountLetters.f
  repeat' first
      | (with_reducible exact ih0 _ _ _)
      | (with_reducible exact spec_l01Text.mono _ _)
      | (with_reducible exact LeO.refl _)
      | (with_reducible exact LeO.none _)
      | (with_reducible refine LeO.ite ?_ ?_)
      | (with_reducible refine LeO.bind ?_ (fun _ => ?_))
      | exact ih0 _ _ _
      | exact spec_l01Text.mono _ _
      | exact LeO.none _
      | refine LeO.ite ?_ ?_
      | refine LeO.bind ?_ (fun _ => ?_)
set_option maxHeartbeats 8000000 in
set_option maxRecDepth 100000 in
theorem spec_CountLetters.calls (k : Nat) (a0 : ByteArray) (r1 : List Int) (r2 : Int) (w : World) (h : spec_CountLetters.f k a0 = some (r1, r2)) :
    Calls Tryz.prog 25 #[.string a0] w fun e w' => ∃ v0_ : Value, e = .returned (.tuple #[v0_, .int .i64 r2]) ∧ Kd.R (Kd.int .i64) 2 w' w.heap.size (fun _ => True) v0_ r1 ∧ Below w.heap.size w w' := by
  have HB := Aside0.mk (Below.refl w.heap.size w)
  have H : ((spec_l01Text.f k a0).bind fun t323 => (if t323 = true then (if 26 ≤ 35184372088832 then (spec_CountLetters.l0 k a0 (List.replicate 26 0) 0) else (none)) else (some ((([] : List Int)), 1)))) = some (r1, r2) := h
  clear h
  replace H := Option.bind_eq_some_iff.mp H
  obtain ⟨t323, A20, H⟩ := H
  replace H : (if t323 = true then (if 26 ≤ 35184372088832 then (spec_CountLetters.l0 k a0 (List.replicate 26 0) 0) else (none)) else (some ((([] : List Int)), 1))) = some (r1, r2) := H
  have A2 := Aside0.mk A20
  clear A20
  by_cases c3 : t323 = true
  · subst c3
    have H1 : (if 26 ≤ 35184372088832 then (spec_CountLetters.l0 k a0 (List.replicate 26 0) 0) else (none)) = some (r1, r2) := by rw [if_pos rfl] at H; exact H
    clear H
    have H := H1
    clear H1
    by_cases c4 : 26 ≤ 35184372088832
    · rw [if_pos c4] at H
      have c4b0 := eq_true c4
      have c4b1 : decide (26 ≤ 35184372088832) = true := decide_eq_true c4
      clear c4
      obtain ⟨y327, hy327⟩ : ∃ y_ : List Int, y_ = (List.replicate 26 0) := ⟨_, rfl⟩
      replace H : (spec_CountLetters.l0 k a0 y327 0) = some (r1, r2) := by first | (rw [hy327]; with_reducible exact H) | (have H2_ := (Option.bind_some _ _).symm.trans H; rw [hy327]; with_reducible exact H2_) | (have H2_ := (Option.bind_some _ _).symm.trans H; with_reducible exact H2_) | with_reducible exact H | (rw [hy327]; exact H) | exact H
      have Ny327 := Aside0.mk hy327
      clear hy327
      have H' := Aside0.mk H
      clear H
      go_enter Tryz.func25, Tryz.ntmps25
      go_wp2_with (first | ((with_reducible refine gate_callee (f := 48) rfl ?_); refine goesL_ (some 7) rfl rfl Tryz.func48 (by kernel_rfl) rfl #[.string a0] rfl (by (try simp only [List.map_toArray, List.map_cons, List.map_nil]); first | done | rfl | (simp only [List.length_drop, List.length_take]; rfl)) ?_; (with_reducible refine (spec_l01Text.calls k a0 true _ A2.out).mono ?_); rintro e w' ⟨rfl, ⟨nd, rfl⟩⟩; refine ⟨_, rfl, ?_⟩) | ((with_reducible refine gate_dst (N := 10) rfl ?_); refine Kd.R_make (Kd.int .i64) _ 2 rfl (N := 10) rfl 50 _ _ rfl 26 rfl rfl Tryz.underlying50 (.int .i64 0) 8 info2 rfl (by decide) (by omega) 0 (ok := fun _ => True) (okp := fun _ => True) rfl (fun _ hk => hk) trivial (by omega) (by omega) (Below.refl _ _) (Nat.le_refl _) ?_; intro v328 w5 ho6 hb hg_ hnew_; clear hg_ hnew_; (first | rw [← Ny327.out] at ho6 | (simp only [Int.reduceToNat] at ho6; rw [← Ny327.out] at ho6)); have n0_ := Aside0.mk (Kd.R_lower ho6 (below_size (by repeat (first | (with_reducible first | exact HB.out | apply below_alloc | apply pw_below_drewN | apply below_drew1) | exact HB.out)))); have n1_ := Aside0.mk (below_step (by repeat (first | (with_reducible first | exact HB.out | apply below_alloc | apply pw_below_drewN | apply below_drew1) | exact HB.out)) hb); clear HB; have HO329 := n0_; have HB := n1_; clear n0_ n1_; clear hb ho6))
      go_loopg [5] k (fun kq v5 w' => ∃ (x4_1 : List Int) (x5_1 : Int), v5 = .int .i64 x5_1 ∧ Aside0 (spec_CountLetters.l0 kq a0 x4_1 x5_1 = some (r1, r2)) ∧ Aside0 (kq ≤ k) ∧ Aside0 (Kd.R (Kd.int .i64) 2 w' w.heap.size (fun _ => True) v328 x4_1) ∧ Aside0 (Below w.heap.size w w'))
      case atStart => exact ⟨(y327), (0), (by first | rfl | (simp; done) | (simp [*]; done)), H', ⟨Nat.le_refl _⟩, ⟨by (with_reducible repeat (first | apply Kd.R_alloc | apply Kd.R_drewN | apply Kd.R_drew)); exact HO329.out⟩, ⟨by repeat (first | (with_reducible first | exact HB.out | apply below_alloc | apply pw_below_drewN | apply below_drew1) | exact HB.out)⟩⟩
      case round =>
        clear H'
        try clear c2
        try clear p2
        try clear c3
        try clear c4
        try clear c4b0
        try clear c4b1
        obtain ⟨x4_1, x5_1, rfl, HA, HK1, HO_4, HB⟩ := hrel
        cases gk with
        | zero => exact absurd HA.out (by simp [spec_CountLetters.l0])
        | succ k1 =>
          have H := HA.out
          clear HA
          simp only [spec_CountLetters.l0] at H
          by_cases c7 : x5_1 < (a0.size : Int)
          · rw [if_pos c7] at H
            have c7b0 : decide (x5_1 < (a0.size : Int)) = true := decide_eq_true c7
            clear c7
            by_cases c8 : 0 ≤ x5_1
            · rw [if_pos c8] at H
              have c8b0 : decide (0 ≤ x5_1) = true := decide_eq_true c8
              clear c8
              by_cases c10 : (bt a0 x5_1) = 32
              · rw [if_pos c10] at H
                have c10b0 : ((bt a0 x5_1) == 32) = true := beq_iff_eq.mpr c10
                have c10b1 : ((bt a0 x5_1) != 32) = false := bne_eq_false_iff_eq.mpr c10
                clear c10
                have H' := Aside0.mk H
                clear H
                have p9 : 0 ≤ (x5_1 : Int) := of_decide_eq_true (by first | (with_reducible assumption) | assumption)
                have q9 : x5_1 < (a0.size : Int) := of_decide_eq_true (by first | (with_reducible assumption) | assumption)
                have hx9 := bt_at a0 x5_1
                replace p9 := eq_true p9
                replace q9 := eq_true q9
                go_wp2
                go_roundg k1
                case measure => have := HK1.out; omega
                case rel => exact ⟨(x4_1), (wrap64 (x5_1 + 1)), (by first | rfl | (simp; done) | (simp [*]; done)), H', ⟨by have := HK1.out; omega⟩, ⟨by (with_reducible repeat (first | apply Kd.R_alloc | apply Kd.R_drewN | apply Kd.R_drew)); exact HO_4.out⟩, ⟨by repeat (first | (with_reducible first | exact HB.out | apply below_alloc | apply pw_below_drewN | apply below_drew1) | exact HB.out)⟩⟩
              · rw [if_neg c10] at H
                have c10b0 : ((bt a0 x5_1) == 32) = false := beq_eq_false_iff_ne.mpr c10
                have c10b1 : ((bt a0 x5_1) != 32) = true := bne_iff_ne.mpr c10
                obtain ⟨ji12, hji12⟩ : ∃ j_ : Int, (((bt a0 x5_1) - 65) % 256) = j_ := ⟨_, rfl⟩
                replace H : (if 0 ≤ (ji12) then (if (ji12) < (x4_1.length : Int) then (spec_CountLetters.l0 k1 a0 (x4_1.set ((ji12) : Int).toNat (wrap64 ((rd x4_1 (ji12)) + 1))) (wrap64 (x5_1 + 1))) else (none)) else (none)) = some (r1, r2) := by first | (rw [hji12] at H; exact H) | (simp only [hji12] at H ⊢; exact H)
                by_cases c13 : 0 ≤ (ji12)
                · rw [if_pos c13] at H
                  have c13b0 : decide (0 ≤ (ji12)) = true := decide_eq_true c13
                  clear c13
                  by_cases c14 : (ji12) < (x4_1.length : Int)
                  · rw [if_pos c14] at H
                    have c14b0 : decide ((ji12) < (x4_1.length : Int)) = true := decide_eq_true c14
                    clear c14
                    obtain ⟨y331, hy331⟩ : ∃ y_ : List Int, y_ = (x4_1.set ((ji12) : Int).toNat (wrap64 ((rd x4_1 (ji12)) + 1))) := ⟨_, rfl⟩
                    replace H : (spec_CountLetters.l0 k1 a0 y331 (wrap64 (x5_1 + 1))) = some (r1, r2) := by first | (rw [hy331]; with_reducible exact H) | (have H2_ := (Option.bind_some _ _).symm.trans H; rw [hy331]; with_reducible exact H2_) | (have H2_ := (Option.bind_some _ _).symm.trans H; with_reducible exact H2_) | with_reducible exact H | (rw [hy331]; exact H) | exact H
                    have Ny331 := Aside0.mk hy331
                    clear hy331
                    have H' := Aside0.mk H
                    clear H
                    have p9 : 0 ≤ (x5_1 : Int) := of_decide_eq_true (by first | (with_reducible assumption) | assumption)
                    have q9 : x5_1 < (a0.size : Int) := of_decide_eq_true (by first | (with_reducible assumption) | assumption)
                    have hx9 := bt_at a0 x5_1
                    replace p9 := eq_true p9
                    replace q9 := eq_true q9
                    have p11 : 0 ≤ (x5_1 : Int) := of_decide_eq_true (by first | (with_reducible assumption) | assumption)
                    have q11 : x5_1 < (a0.size : Int) := of_decide_eq_true (by first | (with_reducible assumption) | assumption)
                    have hx11 := bt_at a0 x5_1
                    replace p11 := eq_true p11
                    replace q11 := eq_true q11
                    obtain ⟨Ao16, co16, eo16⟩ := Kd.R_slice HO_4.out
                    subst eo16
                    have p330 : 0 ≤ ((ji12) : Int) := of_decide_eq_true (by first | (with_reducible assumption) | assumption)
                    have q330 : (ji12) < (x4_1.length : Int) := of_decide_eq_true (by first | (with_reducible assumption) | assumption)
                    obtain ⟨ad330, e330, hx330_0⟩ := Kd.at_int (Kd.R_reads' HO_4.out).2.2 (ji12) p330 q330
                    cases e330
                    replace p330 := eq_true p330
                    replace q330 := eq_true q330
                    have p15 : 0 ≤ ((ji12) : Int) := of_decide_eq_true (by first | (with_reducible assumption) | assumption)
                    have q15 : ((ji12) : Int) < ((x4_1.length : Int) : Int) := of_decide_eq_true (by first | (with_reducible assumption) | assumption)
                    obtain ⟨go15, co15, eo15, gb15, gl15, cl15, HG15⟩ := Kd.R_form HO_4.out (by omega)
                    (first | cases eo15 | (injection eo15 with ea_ en_ ec_; (first | subst ea_ | (injection ea_ with ea_; subst ea_)); subst ec_; clear en_))
                    have GB15 := Aside0.mk gb15
                    have GG15 := Aside0.mk HG15
                    clear gb15 gl15 HG15
                    (first | simp only [add_plain] at hx330_0 | skip)
                    obtain ⟨hx15_0, hf15_0⟩ := Kd.R_celln 0 HO_4.out ((ji12) : Int) p15 q15
                    replace p15 := eq_true p15
                    replace q15 := eq_true q15
                    have HP17 := Kd.R_putg HO_4.out ((ji12) : Int) (wrap64 ((rd x4_1 (ji12)) + 1))
                    go_wp2_with (first | ((with_reducible refine gate_store (t := 2) (p := 29) rfl ?_); refine store_event (t := 2) (p := 29) (v := ?vo_w18) (w1 := (wr.setCell ⟨go15, ((ji12) : Int).toNat, none⟩ (.int .i64 (wrap64 ((rd x4_1 (ji12)) + 1))))) ?hg ?ho ?hn ?hr ?_; (case ho => rfl); (case hg => rfl); (case hn => rfl); (case hr => first | (go_simp; done) | (go_simp; rfl)); intro w18 hw; have hg : wr.grownBy w18 (some go15) := (by rw [hw]; exact HP17.2); have hp_ : Kd.R (Kd.int .i64) 2 w18 w.heap.size (fun _ => True) (.slice (some ⟨go15, 0, none⟩) x4_1.length co16) y331 := (by rw [hw, Ny331.out]; exact HP17.1); clear HP17; have n0_ := Aside0.mk (hp_); have n1_ := Aside0.mk ((by rw [hw]; exact below_set (HB.out) GB15.out : Below w.heap.size w w18)); clear HO_4; clear HB; have HO_4 := n0_; have HB := n1_; clear n0_ n1_; clear hg hw hp_))
                    go_roundg k1
                    case measure => have := HK1.out; omega
                    case rel => exact ⟨(y331), (wrap64 (x5_1 + 1)), (by first | rfl | (simp; done) | (simp [*]; done)), H', ⟨by have := HK1.out; omega⟩, ⟨by (with_reducible repeat (first | apply Kd.R_alloc | apply Kd.R_drewN | apply Kd.R_drew)); exact HO_4.out⟩, ⟨by repeat (first | (with_reducible first | exact HB.out | apply below_alloc | apply pw_below_drewN | apply below_drew1) | exact HB.out)⟩⟩
                  · rw [if_neg c14] at H
                    exact absurd H (by simp)
                · rw [if_neg c13] at H
                  exact absurd H (by simp)
            · rw [if_neg c8] at H
              exact absurd H (by simp)
          · rw [if_neg c7] at H
            have c7b0 : decide (x5_1 < (a0.size : Int)) = false := decide_eq_false c7
            clear c7
            simp only [Option.some.injEq, Prod.mk.injEq] at H
            obtain ⟨rfl, rfl⟩ := H
            go_wp2
            go_ret2
            exact ⟨_, by first | rfl | (simp [errW_none, errW_some] <;> rfl) | (simp [*, errW_none, errW_some] <;> rfl), by (with_reducible repeat (first | apply Kd.R_alloc | apply Kd.R_drewN | apply Kd.R_drew)); exact HO_4.out, by repeat (first | (with_reducible first | exact HB.out | apply below_alloc | apply pw_below_drewN | apply below_drew1) | exact HB.out)⟩
    · rw [if_neg c4] at H
      exact absurd H (by simp)
  · replace c3 := Bool.eq_false_iff.mpr c3
    subst c3
    have H1 : (some ((([] : List Int)), 1)) = some (r1, r2) := by rw [if_neg (show ¬ (false = true) by decide)] at H; exact H
    clear H
    have H := H1
    clear H1
    obtain ⟨y324, hy324⟩ : ∃ y_ : List Int, y_ = (([] : List Int)) := ⟨_, rfl⟩
    replace H : (some (y324, 1)) = some (r1, r2) := by first | (rw [hy324]; with_reducible exact H) | (have H2_ := (Option.bind_some _ _).symm.trans H; rw [hy324]; with_reducible exact H2_) | (have H2_ := (Option.bind_some _ _).symm.trans H; with_reducible exact H2_) | with_reducible exact H | (rw [hy324]; exact H) | exact H
    have Ny324 := Aside0.mk hy324
    clear hy324
    simp only [Option.some.injEq, Prod.mk.injEq] at H
    obtain ⟨rfl, rfl⟩ := H
    go_enter Tryz.func25, Tryz.ntmps25
    go_wp2_with (first | ((with_reducible refine gate_callee (f := 48) rfl ?_); refine goesL_ (some 7) rfl rfl Tryz.func48 (by kernel_rfl) rfl #[.string a0] rfl (by (try simp only [List.map_toArray, List.map_cons, List.map_nil]); first | done | rfl | (simp only [List.length_drop, List.length_take]; rfl)) ?_; (with_reducible refine (spec_l01Text.calls k a0 false _ A2.out).mono ?_); rintro e w' ⟨rfl, ⟨nd, rfl⟩⟩; refine ⟨_, rfl, ?_⟩) | ((with_reducible refine gate_dst (N := 9) rfl ?_); refine Kd.R_lit (Kd.int .i64) _ 2 ?hg (N := 9) ?hd (xs := ([] : List Int)) (inner := []) (ok := fun _ => True) (okp := fun _ => True) ?hr ?hp (fun _ hk => hk) trivial (Below.refl _ _) (Nat.le_refl _) (by simp) ?_; (case hd => rfl); (case hg => rfl); (case hr => first | (go_simp; done) | (go_simp; rfl)); (case hp => exact (Reps.none _ _)); intro v325 w19 ho20 hb hg_ hnew_; clear hg_ hnew_; (first | rw [← Ny324.out] at ho20 | (simp only [Int.reduceToNat] at ho20; rw [← Ny324.out] at ho20)); have n0_ := Aside0.mk (Kd.R_lower ho20 (below_size (by repeat (first | (with_reducible first | exact HB.out | apply below_alloc | apply pw_below_drewN | apply below_drew1) | exact HB.out)))); have n1_ := Aside0.mk (below_step (by repeat (first | (with_reducible first | exact HB.out | apply below_alloc | apply pw_below_drewN | apply below_drew1) | exact HB.out)) hb); clear HB; have HO326 := n0_; have HB := n1_; clear n0_ n1_; clear hb ho20))
    go_ret2
    exact ⟨_, by first | rfl | (simp [errW_none, errW_some] <;> rfl) | (simp [*, errW_none, errW_some] <;> rfl), by (with_reducible repeat (first | apply Kd.R_alloc | apply Kd.R_drewN | apply Kd.R_drew)); exact HO326.out, by repeat (first | (with_reducible first | exact HB.out | apply below_alloc | apply pw_below_drewN | apply below_drew1) | exact HB.out)⟩

end Go.Proofs.YtimkkjkgbbfgbaaGreatDoor.Q
end
section
/- Words of a text: split, joined, their letters counted (r2's templates without the laws). -/
namespace Go.Proofs.YtimkkjkgbbfgbaaGreatDoor.Q
open Go.RowKit Go.Proofs.YtimkkjkgbbfgbaaGreatDoorW.PrintWords Go.Proofs.YtimkkjkgbbfgbaaGreatDoorW.PrintLast Go.Proofs.YtimkkjkgbbfgbaaGreatDoorW.PrintMore
open Go.Proofs.YtimkkjkgbbfgbaaGreatDoor.Pure
set_option linter.unusedVariables false
set_option linter.unusedSimpArgs false

def wordsM (a : ByteArray) : List ByteArray × Int := if textB a = true then (wordsF a, 0) else ([], 1)
theorem wordsM_len (a : ByteArray) : (wordsM a).1.length ≤ a.size + 1 := by
  unfold wordsM
  split
  · have := fields_len a; simpa [wordsF] using this
  · exact Nat.zero_le _
theorem impl_WordsOf.val (a : ByteArray) (k : Nat) (hk : 61 ≤ k) : impl_WordsOf.f k a = some (wordsM a) := by
  have ht : impl_ValidText.f k a = some (textB a) := by
    by_cases h : a.size ≤ 60
    · exact at_rounds (impl_ValidText.mono a) (by omega) (impl_ValidText.val a (by omega))
    · unfold impl_ValidText.f textB
      rw [if_neg (by omega)]
      simp [show ¬ ((a.size : Int) ≤ 60) by omega]
  unfold impl_WordsOf.f wordsM
  rw [ht]
  simp only [Option.bind_some]
  cases h : textB a with
  | false => simp
  | true => simp [strings_Fields.val a h]
theorem spec_WordsOf.val (a : ByteArray) (ha : a.size ≤ 9223372036854775807) (k : Nat) (hk : a.size + 62 ≤ k) : spec_WordsOf.f k a = some (wordsM a) := by
  unfold spec_WordsOf.f wordsM
  rw [at_rounds (spec_l01Text.mono a) (by omega) (spec_l01Text.val a ha)]
  simp only [Option.bind_some]
  cases h : textB a with
  | false => simp
  | true => simp [spec_l01Words.val a h k (by omega)]

theorem joinB_len (l : List ByteArray) (M : Nat) (h : ∀ x ∈ l, x.size ≤ M) : (joinB l blank).size ≤ l.length * (M + 1) := by
  have := joinB_size l blank M h (by decide)
  exact this
theorem take_ne (l : List ByteArray) (n : Nat) (h : n ≤ l.length) (h0 : n ≠ 0) : l.take n ≠ [] := fun e => by
  have := congrArg List.length e
  rw [List.length_take, List.length_nil] at this
  omega
theorem joinB_ge (l : List ByteArray) : ∀ x ∈ l, x.size ≤ (joinB l blank).size := by
  intro x hx
  obtain ⟨i, hi, rfl⟩ := List.getElem_of_mem hx
  have key : ∀ n, n ≤ l.length → ∀ j (hj : j < n) (hj2 : j < l.length), l[j].size ≤ (joinB (l.take n) blank).size := by
    intro n
    induction n with
    | zero => intro _ j hj; omega
    | succ n ih =>
      intro hn j hj hj2
      rw [List.take_succ_eq_append_getElem (by omega)]
      by_cases h0 : n = 0
      · subst h0
        obtain rfl : j = 0 := by omega
        rw [List.take_zero, List.nil_append, joinB_one]
        exact Nat.le_refl _
      · rw [joinB_snoc _ _ _ (take_ne _ _ (by omega) h0), ByteArray.size_append, ByteArray.size_append]
        by_cases hjn : j = n
        · subst hjn; omega
        · have := ih (by omega) j (by omega) hj2; omega
  have := key l.length (Nat.le_refl _) i hi hi
  rwa [List.take_of_length_le (Nat.le_refl _)] at this
theorem joinB_count (l : List ByteArray) (h : ∀ x ∈ l, 0 < x.size) : l.length ≤ (joinB l blank).size := by
  have key : ∀ n, n ≤ l.length → n ≤ (joinB (l.take n) blank).size := by
    intro n
    induction n with
    | zero => intro _; exact Nat.zero_le _
    | succ n ih =>
      intro hn
      rw [List.take_succ_eq_append_getElem (by omega)]
      have hp := h l[n] (List.getElem_mem _)
      by_cases h0 : n = 0
      · subst h0
        rw [List.take_zero, List.nil_append, joinB_one]
        exact hp
      · rw [joinB_snoc _ _ _ (take_ne _ _ (by omega) h0), ByteArray.size_append, ByteArray.size_append]
        have := ih (by omega)
        omega
  have := key l.length (Nat.le_refl _)
  rwa [List.take_of_length_le (Nat.le_refl _)] at this

theorem spec_l01Joined.val (l : List ByteArray) (hf : joinFine l) (k : Nat) (hk : l.length < k) : spec_l01Joined.f k l = some (joinB l blank) := by
  have hsz : ∀ i, (joinB (l.take i) blank).size ≤ 1048576 * 1048577 := fun i => by
    have h1 := joinB_len (l.take i) 1048576 (fun x hx => hf.2 x (List.mem_of_mem_take hx))
    have h2 : (l.take i).length ≤ 1048576 := by rw [List.length_take]; have := hf.1; omega
    exact Nat.le_trans h1 (Nat.mul_le_mul_right _ h2)
  unfold spec_l01Joined.f
  have := scan_inv (n := l.length) (M := 0) (l := fun k i x => spec_l01Joined.l0 k l x i) (at_ := fun i => joinB (l.take i) blank) (r := joinB l blank) (fun k i hi _ => ?_) (fun k _ => ?_) k (by omega)
  · exact this
  · have hx := hf.2 l[i] (List.getElem_mem hi)
    have hs := hsz i
    simp only [spec_l01Joined.l0]
    rw [if_pos (by omega), rdOf_get _ _ _ hi, wrap_succ hi (by have := hf.1; omega)]
    have hb : (⟨#[32]⟩ : ByteArray) = blank := rfl
    rw [hb, List.take_succ_eq_append_getElem hi]
    have hone : blank.size = 1 := rfl
    by_cases h0 : i = 0
    · subst h0
      rw [if_neg (by omega), if_pos (by omega), if_pos (by omega), List.take_zero, List.nil_append, joinB_one, joinB_nil]
      congr 1
    · rw [if_pos (by omega), if_pos (by omega), if_pos (by omega), if_pos (by rw [ByteArray.size_append]; omega), joinB_snoc _ _ _ (take_ne _ _ (by omega) h0)]
  · simp [spec_l01Joined.l0]

theorem word_small {l : List ByteArray} (hw : l.all wordB = true) (ht : textB (joinB l blank) = true) : l.all word60 = true := by
  have h60 : (joinB l blank).size ≤ 60 := by
    unfold textB at ht
    simp only [Bool.and_eq_true, decide_eq_true_iff] at ht
    omega
  rw [List.all_eq_true] at hw ⊢
  intro x hx
  have := joinB_ge l x hx
  unfold word60
  rw [hw x hx, decide_eq_true (by omega)]
  rfl
theorem all_word {l : List ByteArray} (h : l.all word60 = true) : l.all wordB = true := by
  rw [List.all_eq_true] at h ⊢
  intro x hx
  have := h x hx
  unfold word60 at this
  simp only [Bool.and_eq_true] at this
  exact this.1
theorem word_pos {x : ByteArray} (h : wordB x = true) : 0 < x.size := by
  unfold wordB at h
  simp only [Bool.and_eq_true, decide_eq_true_iff] at h
  exact h.2
theorem joinM_long {l : List ByteArray} (hl : 61 < l.length) : joinM l = (⟨#[]⟩, 1) := by
  unfold joinM
  by_cases ht : textB (joinB l blank) = true
  · rw [if_pos ht]
    by_cases ha : l.all word60 = true
    · have h60 : (joinB l blank).size ≤ 60 := by
        unfold textB at ht
        simp only [Bool.and_eq_true, decide_eq_true_iff] at ht
        omega
      have := joinB_count l (fun x hx => word_pos (List.all_eq_true.1 (all_word ha) x hx))
      omega
    · rw [if_neg ha]
  · rw [if_neg ht]
theorem joinM_bad {l : List ByteArray} (h : l.all wordB = false) : joinM l = (⟨#[]⟩, 1) := by
  unfold joinM
  split
  · rw [if_neg (fun ha => by rw [all_word ha] at h; cases h)]
  · rfl
theorem joinM_good {l : List ByteArray} (h : l.all wordB = true) : joinM l = if textB (joinB l blank) = true then (joinB l blank, 0) else (⟨#[]⟩, 1) := by
  unfold joinM
  by_cases ht : textB (joinB l blank) = true
  · rw [if_pos ht, if_pos ht, if_pos (word_small h ht)]
  · rw [if_neg ht, if_neg ht]

def skipL (c : List Int) (b : Int) : List Int := if b = 32 then c else addL c b
theorem skip_filter : ∀ (xs c : List Int), xs.foldl skipL c = (xs.filter fun x => x != 32).foldl addL c := by
  intro xs
  induction xs with
  | nil => intro c; rfl
  | cons x xs ih =>
    intro c
    rw [List.foldl_cons, ih]
    by_cases h : x = 32
    · rw [List.filter_cons_of_neg (by simp [h]), skipL, if_pos h]
    · rw [List.filter_cons_of_pos (by simpa using h), List.foldl_cons, skipL, if_neg h]
theorem skip_len : ∀ (xs c : List Int), (xs.foldl skipL c).length = c.length := by
  intro xs c
  rw [skip_filter, foldl_addL_len]
def skipTo (a : ByteArray) (i : Nat) : List Int := ((bytesOf a).take i).foldl skipL (List.replicate 26 0)
theorem skipTo_step (a : ByteArray) (i : Nat) (h : i < a.size) : skipTo a (i + 1) = skipL (skipTo a i) (bt a i) := by
  unfold skipTo
  rw [List.take_succ_eq_append_getElem (by rw [bytesOf_length]; exact h), List.foldl_append, bytesOf_at a i h]
  rfl
theorem skipTo_len (a : ByteArray) (i : Nat) : (skipTo a i).length = 26 := by
  unfold skipTo
  rw [skip_len, List.length_replicate]
theorem skipTo_all (a : ByteArray) : skipTo a a.size = cntL (bytesOf (strip a)) (strip a).size := by
  unfold skipTo cntL
  rw [List.take_of_length_le (by rw [bytesOf_length]; exact Nat.le_refl _), List.take_of_length_le (by rw [bytesOf_length]; exact Nat.le_refl _), skip_filter, bytesOf_strip]

theorem spec_CountLetters.val (a : ByteArray) (ha : a.size ≤ 9223372036854775807) : spec_CountLetters.f (a.size + 1) a = some (countM a) := by
  unfold spec_CountLetters.f countM
  rw [spec_l01Text.val a ha]
  simp only [Option.bind_some]
  cases ht : textB a with
  | false => simp
  | true =>
    simp only [if_true]
    rw [if_pos (by omega), ← skipTo_all]
    refine scan_inv (n := a.size) (M := 0) (l := fun k i x => spec_CountLetters.l0 k a x i) (at_ := skipTo a) (fun k i hi _ => ?_) (fun k _ => ?_) _ (by omega)
    · simp only [spec_CountLetters.l0]
      rw [if_pos (by omega), if_pos (by omega), wrap_succ hi ha, skipTo_step a i hi, skipTo_len]
      by_cases h : bt a i = 32
      · rw [if_pos h, skipL, if_pos h]
      · have hl : isL (bt a i) = true := by
          rcases text_bytes ht (bt a i) (by rw [← bytesOf_at a i hi]; exact List.getElem_mem _) with e | e
          · exact absurd e h
          · exact e
        unfold isL at hl
        simp only [Bool.and_eq_true, decide_eq_true_iff] at hl
        have e : (bt a i - 65) % 256 = bt a i - 65 := by omega
        rw [if_neg h, e, if_pos (by omega), if_pos (by omega), skipL, if_neg h]
        rfl
    · simp [spec_CountLetters.l0]

theorem countM_len (a : ByteArray) : (countM a).1.length ≤ 26 := by
  unfold countM
  split
  · rw [cntL_len]; exact Nat.le_refl _
  · exact Nat.zero_le _

end Go.Proofs.YtimkkjkgbbfgbaaGreatDoor.Q
end
section
/- Texts that are drawn: words of letters, joined by one space; what the program makes of them. -/
namespace Go.Proofs.YtimkkjkgbbfgbaaGreatDoor.Q
open Go.RowKit Go.Proofs.YtimkkjkgbbfgbaaGreatDoorW.PrintWords Go.Proofs.YtimkkjkgbbfgbaaGreatDoorW.PrintLast Go.Proofs.YtimkkjkgbbfgbaaGreatDoorW.PrintMore
open Go.Proofs.YtimkkjkgbbfgbaaGreatDoor.Pure
set_option linter.unusedVariables false
set_option linter.unusedSimpArgs false

def goodL (l : List UInt8) : Prop := l ≠ [] ∧ ∀ b ∈ l, isL (b.toNat : Int) = true
def inv32 (l : List UInt8) : Prop := (∀ b ∈ l, isL (b.toNat : Int) = true ∨ b = 32) ∧ (∀ i : Nat, ¬ (l[i]? = some 32 ∧ l[i + 1]? = some 32)) ∧ l.head? ≠ some 32 ∧ l.getLast? ≠ some 32
theorem isL_ne {b : UInt8} (h : isL (b.toNat : Int) = true) : b ≠ 32 := by
  rintro rfl
  revert h
  decide
theorem good_at {l : List UInt8} (h : goodL l) (i : Nat) : l[i]? ≠ some 32 := by
  intro e
  exact isL_ne (h.2 _ (List.mem_of_getElem? e)) rfl
theorem good_inv {l : List UInt8} (h : goodL l) : inv32 l :=
  ⟨fun b hb => .inl (h.2 b hb), fun i hi => good_at h i hi.1, by rw [List.head?_eq_getElem?]; exact good_at h 0, by rw [List.getLast?_eq_getElem?]; exact good_at h _⟩
theorem inv_join {x m : List UInt8} (hx : goodL x) (hm0 : m ≠ []) (hm : inv32 m) : inv32 (x ++ 32 :: m) := by
  obtain ⟨h1, h2, h3, h4⟩ := hm
  have hp : 0 < x.length := List.length_pos_iff.2 hx.1
  refine ⟨fun b hb => ?_, fun i hi => ?_, ?_, ?_⟩
  · rcases List.mem_append.1 hb with hb | hb
    · exact .inl (hx.2 b hb)
    · rcases List.mem_cons.1 hb with rfl | hb
      · exact .inr rfl
      · exact h1 b hb
  · obtain ⟨e1, e2⟩ := hi
    by_cases c1 : i < x.length
    · rw [List.getElem?_append_left c1] at e1
      exact good_at hx i e1
    · rw [List.getElem?_append_right (by omega)] at e1 e2
      rw [show i + 1 - x.length = (i - x.length) + 1 by omega, List.getElem?_cons_succ] at e2
      by_cases c2 : i = x.length
      · rw [c2, Nat.sub_self] at e2
        exact h3 (by rw [List.head?_eq_getElem?]; exact e2)
      · obtain ⟨j, hj⟩ : ∃ j, i - x.length = j + 1 := ⟨i - x.length - 1, by omega⟩
        rw [hj] at e1 e2
        rw [List.getElem?_cons_succ] at e1
        exact h2 j ⟨e1, e2⟩
  · rw [List.head?_eq_getElem?, List.getElem?_append_left hp]
    exact good_at hx 0
  · rw [List.getLast?_append, List.getLast?_cons]
    cases hq : m.getLast? with
    | none => exact absurd (List.getLast?_eq_none_iff.1 hq) hm0
    | some y =>
      rw [hq] at h4
      simpa using h4
theorem join_two (x y : List UInt8) (r : List (List UInt8)) : Lib.join (x :: y :: r) [32] = x ++ 32 :: Lib.join (y :: r) [32] := by
  rw [Lib.join_cons, Lib.join_cons]
  show x ++ (([32] ++ y) ++ Lib.joinTail [32] r) = _
  simp
theorem join_inv : ∀ (l : List (List UInt8)), (∀ x ∈ l, goodL x) → inv32 (Lib.join l [32]) ∧ (l ≠ [] → Lib.join l [32] ≠ [])
  | [], _ => ⟨by
      rw [Lib.join_nil]
      exact ⟨fun b hb => by simp at hb, fun i hi => by simp at hi, by simp, by simp⟩, fun h => absurd rfl h⟩
  | [x], h => by
    rw [Lib.join_one]
    have := h x (List.mem_singleton.2 rfl)
    exact ⟨good_inv this, fun _ => this.1⟩
  | x :: y :: r, h => by
    rw [join_two]
    obtain ⟨h1, h2⟩ := join_inv (y :: r) (fun z hz => h z (List.mem_cons_of_mem _ hz))
    exact ⟨inv_join (h x (List.mem_cons_self ..)) (h2 (by simp)) h1, fun _ => by simp⟩
theorem bt_mem (a : ByteArray) (i : Nat) (hi : i < a.size) : ∃ b : UInt8, b ∈ a.data.toList ∧ bt a i = (b.toNat : Int) := by
  refine ⟨a.data.toList[i]'(by rw [list_len]; exact hi), List.getElem_mem _, ?_⟩
  exact (bt_list a i hi _).1 (List.getElem?_eq_getElem _)
theorem text_of_inv (a : ByteArray) (h : inv32 a.data.toList) : textB a = decide ((a.size : Int) ≤ 60) := by
  unfold textB
  rw [(all_ok a).2 ⟨?_, ?_, ?_⟩, Bool.true_and]
  · rw [List.all_eq_true]
    intro i hi
    obtain ⟨b, hb, e⟩ := bt_mem a i (List.mem_range.1 hi)
    rw [e]
    rcases h.1 b hb with h | rfl
    · rw [h]; rfl
    · rfl
  · rw [contains_two]
    rintro ⟨i, hi⟩
    exact h.2.1 i hi
  · rw [trim_self]
    exact h.2.2
def goodB (a : ByteArray) : Prop := goodL a.data.toList
theorem join_text (l : List ByteArray) (h : ∀ x ∈ l, goodB x) : textB (joinB l blank) = decide (((joinB l blank).size : Int) ≤ 60) := by
  apply text_of_inv
  refine (join_inv (l.map (·.data.toList)) fun x hx => ?_).1
  obtain ⟨y, hy, rfl⟩ := List.mem_map.1 hx
  exact h y hy
theorem word_good (a : ByteArray) (h : wordB a = true) : goodB a := by
  unfold wordB at h
  rw [Bool.and_eq_true, List.all_eq_true, decide_eq_true_eq] at h
  refine ⟨fun e => ?_, fun b hb => ?_⟩
  · have := list_len a
    rw [e] at this
    simp at this
    omega
  · obtain ⟨i, hi, rfl⟩ := List.mem_iff_getElem.1 hb
    have hi' : i < a.size := by rw [list_len] at hi; exact hi
    have := h.1 i (List.mem_range.2 hi')
    rw [(bt_list a i hi' _).1 (List.getElem?_eq_getElem hi)] at this
    exact this

def saidB (x : ByteArray) : Prop := (1 ≤ x.size ∧ x.size ≤ 5) ∧ ∀ b ∈ x.data.toList, isL (b.toNat : Int) = true
theorem said_good {x : ByteArray} (h : saidB x) : goodB x := ⟨fun e => by have h1 := h.1.1; rw [← list_len, e] at h1; simp at h1, h.2⟩
theorem said_small {ws : List ByteArray} (h : ∀ x ∈ ws, saidB x) (hl : ws.length ≤ 6) : (joinB ws blank).size ≤ 36 := by
  have h1 := joinB_size ws blank 5 (fun x hx => (h x hx).1.2) (by decide)
  have h2 : (joinB ws blank).size = (Lib.join (ws.map (·.data.toList)) blank.data.toList).length := by unfold joinB; simp [ByteArray.size]
  rw [h2]
  omega
theorem said_text {ws : List ByteArray} (h : ∀ x ∈ ws, saidB x) (hl : ws.length ≤ 6) : textB (joinB ws blank) = true := by
  rw [join_text ws (fun x hx => said_good (h x hx))]
  have := said_small h hl
  exact decide_eq_true (by omega)
theorem said_fields {ws : List ByteArray} (h : ∀ x ∈ ws, saidB x) : wordsF (joinB ws blank) = ws := by
  unfold wordsF
  have : Lib.fields (joinB ws blank).data.toList = ws.map (·.data.toList) := by
    show Lib.fields (Lib.join (ws.map (·.data.toList)) [32]) = _
    refine fields_join _ (fun w hw => ?_)
    obtain ⟨x, hx, rfl⟩ := List.mem_map.1 hw
    exact ⟨(said_good (h x hx)).1, fun b hb => letter_sp b ((h x hx).2 b hb)⟩
  rw [this, List.map_map]
  exact (List.map_congr_left (g := id) fun x _ => rfl).trans (List.map_id ws)
theorem said_wordsM {ws : List ByteArray} (h : ∀ x ∈ ws, saidB x) (hl : ws.length ≤ 6) : wordsM (joinB ws blank) = (ws, 0) := by
  unfold wordsM
  rw [if_pos (said_text h hl), said_fields h]
theorem said_word {x : ByteArray} (h : saidB x) : word60 x = true := by
  unfold word60 wordB
  rw [Bool.and_eq_true, Bool.and_eq_true, List.all_eq_true, decide_eq_true_eq, decide_eq_true_eq]
  refine ⟨⟨fun i hi => ?_, by have := h.1.1; omega⟩, by have := h.1.2; omega⟩
  obtain ⟨b, hb, e⟩ := bt_mem x i (List.mem_range.1 hi)
  rw [e]
  exact h.2 b hb
theorem said_joinM {ws : List ByteArray} (h : ∀ x ∈ ws, saidB x) (hl : ws.length ≤ 6) : joinM ws = (joinB ws blank, 0) := by
  unfold joinM
  rw [if_pos (said_text h hl), if_pos (List.all_eq_true.2 (fun x hx => said_word (h x hx)))]
theorem sum_set : ∀ (c : List Int) (i : Nat) (h : i < c.length) (v : Int), (c.set i v).sum = c.sum - c[i] + v
  | [], i, h, v => absurd h (by simp)
  | x :: r, 0, h, v => by
    rw [List.set_cons_zero, List.sum_cons, List.sum_cons, List.getElem_cons_zero]
    omega
  | x :: r, i + 1, h, v => by
    have := sum_set r i (by simpa using h) v
    rw [List.set_cons_succ, List.sum_cons, List.sum_cons, List.getElem_cons_succ, this]
    omega
/-- A row of counts: so many letters in all. -/
def SumI (c : List Int) (k : Nat) : Prop := c.length = 26 ∧ (∀ x ∈ c, 0 ≤ x ∧ x ≤ (k : Int)) ∧ c.sum = (k : Int)
theorem SumI.add {c : List Int} {k : Nat} (h : SumI c k) (hk : k ≤ 1000) {b : Int} (hb : isL b = true) : SumI (addL c b) (k + 1) := by
  obtain ⟨h1, h2, h3⟩ := h
  unfold isL at hb
  rw [Bool.and_eq_true, decide_eq_true_eq, decide_eq_true_eq] at hb
  have hi : (b - 65).toNat < c.length := by omega
  have e : rd c (b - 65) = c[(b - 65).toNat] := by
    have := rd_get c (b - 65).toNat hi
    rwa [Int.toNat_of_nonneg (by omega)] at this
  have hm := h2 _ (List.getElem_mem hi)
  have hw : wrap64 (c[(b - 65).toNat] + 1) = c[(b - 65).toNat] + 1 := wrap_id (by omega) (by omega)
  refine ⟨by rw [addL_len, h1], fun x hx => ?_, ?_⟩
  · unfold addL at hx
    rw [e, hw] at hx
    rcases List.mem_or_eq_of_mem_set hx with hx | rfl
    · have := h2 x hx; omega
    · omega
  · unfold addL
    rw [e, hw, sum_set c _ hi, h3]
    omega
theorem SumI.cnt (xs : List Int) (hx : ∀ x ∈ xs, isL x = true) (hl : xs.length ≤ 1000) : ∀ k, k ≤ xs.length → SumI (cntL xs k) k
  | 0, _ => ⟨cntL_len xs 0, fun x hx => by
      have : x ∈ List.replicate 26 (0 : Int) := hx
      rw [List.eq_of_mem_replicate this]
      omega, rfl⟩
  | k + 1, hk => by
    rw [cntL_step xs k (by omega)]
    exact (SumI.cnt xs hx hl k (by omega)).add (by omega) (hx _ (List.getElem_mem _))
theorem join_letters : ∀ (l : List (List UInt8)), (∀ x ∈ l, goodL x) → ((Lib.join l [32]).filter fun x => x != 32).length = (l.map List.length).sum
  | [], _ => by rw [Lib.join_nil]; rfl
  | [x], h => by
    rw [Lib.join_one, List.filter_eq_self.2 (fun b hb => bne_iff_ne.2 (isL_ne ((h x (List.mem_singleton.2 rfl)).2 b hb)))]
    simp
  | x :: y :: r, h => by
    rw [join_two, List.filter_append, List.length_append, List.filter_eq_self.2 (fun b hb => bne_iff_ne.2 (isL_ne ((h x (List.mem_cons_self ..)).2 b hb))), List.filter_cons_of_neg (by decide), join_letters (y :: r) (fun z hz => h z (List.mem_cons_of_mem _ hz))]
    rfl
theorem said_letters {ws : List ByteArray} (h : ∀ x ∈ ws, saidB x) : (strip (joinB ws blank)).size = (ws.map ByteArray.size).sum := by
  have h1 := join_letters (ws.map (·.data.toList)) (fun x hx => by obtain ⟨y, hy, rfl⟩ := List.mem_map.1 hx; exact said_good (h y hy))
  have h2 : (strip (joinB ws blank)).size = ((Lib.join (ws.map (·.data.toList)) [32]).filter fun x => x != 32).length := by
    unfold strip
    rw [← list_len]
    rfl
  rw [h2, h1, List.map_map]
  congr 1
theorem said_total : ∀ (ws : List ByteArray), (∀ x ∈ ws, saidB x) → (ws.map ByteArray.size).sum ≤ 5 * ws.length
  | [], _ => Nat.zero_le _
  | x :: r, h => by
    have h1 := said_total r (fun z hz => h z (List.mem_cons_of_mem _ hz))
    have h2 := (h x (List.mem_cons_self ..)).1.2
    rw [List.map_cons, List.sum_cons, List.length_cons]
    omega
/-- The letters are counted: twenty-six counts, whose sum is that of the words' lengths. -/
theorem said_count {ws : List ByteArray} (h : ∀ x ∈ ws, saidB x) (hl : ws.length ≤ 6) : ∃ c : List Int, countM (joinB ws blank) = (c, 0) ∧ SumI c (ws.map ByteArray.size).sum := by
  unfold countM
  rw [if_pos (said_text h hl)]
  refine ⟨_, rfl, ?_⟩
  rw [said_letters h]
  have hb : ∀ x ∈ bytesOf (strip (joinB ws blank)), isL x = true := fun x hx => by
    obtain ⟨i, hi, rfl⟩ := List.getElem_of_mem hx
    have hi' : i < (strip (joinB ws blank)).size := by rwa [bytesOf_length] at hi
    rw [bytesOf_at _ i hi']
    exact strip_letter (said_text h hl) i hi'
  have hs : (bytesOf (strip (joinB ws blank))).length = (ws.map ByteArray.size).sum := by rw [bytesOf_length, said_letters h]
  have ht := said_total ws h
  exact SumI.cnt _ hb (by omega) _ (by omega)
theorem sum_take_step (c : List Int) (k : Nat) (h : k < c.length) : (c.take (k + 1)).sum = (c.take k).sum + c[k] := by
  rw [List.take_succ_eq_append_getElem h, List.sum_append, List.sum_singleton]
theorem sum_take_le : ∀ (c : List Int) (k : Nat), (∀ x ∈ c, 0 ≤ x) → 0 ≤ (c.take k).sum ∧ (c.take k).sum ≤ c.sum
  | [], k, _ => by simp
  | x :: r, 0, h => by
    have h1 := sum_take_le r r.length (fun z hz => h z (List.mem_cons_of_mem _ hz))
    rw [List.take_length] at h1
    have h2 := h x (List.mem_cons_self ..)
    rw [List.take_zero, List.sum_nil, List.sum_cons]
    omega
  | x :: r, k + 1, h => by
    have h1 := sum_take_le r k (fun z hz => h z (List.mem_cons_of_mem _ hz))
    have h2 := h x (List.mem_cons_self ..)
    rw [List.take_succ_cons, List.sum_cons, List.sum_cons]
    omega
/-- The words' lengths, as the law adds them up. -/
def lensI (ws : List ByteArray) : List Int := ws.map fun x => (x.size : Int)
theorem lensI_sum : ∀ ws : List ByteArray, (lensI ws).sum = ((ws.map ByteArray.size).sum : Nat)
  | [] => rfl
  | x :: r => by
    have := lensI_sum r
    unfold lensI at this ⊢
    rw [List.map_cons, List.sum_cons, List.map_cons, List.sum_cons, this]
    omega
theorem lensI_len (ws : List ByteArray) : (lensI ws).length = ws.length := by simp [lensI]
theorem lensI_pos (ws : List ByteArray) : ∀ x ∈ lensI ws, 0 ≤ x := fun x hx => by
  obtain ⟨y, _, rfl⟩ := List.mem_map.1 hx
  omega
end Go.Proofs.YtimkkjkgbbfgbaaGreatDoor.Q
end
section
/- What the draws yield: a number in its range, a word, a text; plain. -/
namespace Go.Proofs.YtimkkjkgbbfgbaaGreatDoor.Q
open Go.RowKit Go.Proofs.YtimkkjkgbbfgbaaGreatDoorW.PrintWords Go.Proofs.YtimkkjkgbbfgbaaGreatDoorW.PrintLast Go.Proofs.YtimkkjkgbbfgbaaGreatDoorW.PrintMore
open Go.Proofs.YtimkkjkgbbfgbaaGreatDoor.Pure
set_option linter.unusedVariables false
set_option linter.unusedSimpArgs false

def bytesL (gs : List Int) : Prop := ∀ x ∈ gs, 0 ≤ x ∧ x ≤ 255
theorem and255 (x : Int) (h0 : 0 ≤ x) (h1 : x < 18446744073709551616) : 0 ≤ Go.bits .and .u64 x 255 ∧ Go.bits .and .u64 x 255 ≤ 255 := by
  rw [Go.u64_and x 255 h0 h1 (by decide) (by decide)]
  have : x.toNat &&& (255 : Int).toNat ≤ (255 : Int).toNat := Nat.and_le_right
  have e : (255 : Int).toNat = 255 := rfl
  rw [e] at this ⊢
  omega
theorem u64_range (x : Int) : 0 ≤ IntKind.u64.wrap x ∧ IntKind.u64.wrap x < 18446744073709551616 := by
  rw [Go.IntKind.wrap_u64]
  omega
theorem shift255 (x : Int) : 0 ≤ wrap64 (Go.bits .and .u64 (IntKind.u64.wrap x / 1099511627776) 255) ∧ wrap64 (Go.bits .and .u64 (IntKind.u64.wrap x / 1099511627776) 255) ≤ 255 := by
  have h := u64_range x
  have h2 := and255 (IntKind.u64.wrap x / 1099511627776) (by omega) (by omega)
  rw [wrap_id (by omega) (by omega)]
  exact h2
theorem next_ok (gs : List Int) (hg : bytesL gs) (at_ sd : Int) (h0 : 0 ≤ at_) (h1 : at_ ≤ 1000000) : ∃ x sd', spec_l00Src_next.f gs at_ sd = some (x, at_ + 1, sd') ∧ 0 ≤ x ∧ x ≤ 255 := by
  have hw : wrap64 (at_ + 1) = at_ + 1 := wrap_id (by omega) (by omega)
  unfold spec_l00Src_next.f
  rw [hw]
  by_cases hc : at_ < (gs.length : Int)
  · rw [if_pos hc, if_pos h0]
    have hi : at_.toNat < gs.length := by omega
    have e : rd gs at_ = gs[at_.toNat] := by
      have := rd_get gs at_.toNat hi
      rwa [Int.toNat_of_nonneg h0] at this
    have hr := hg _ (List.getElem_mem hi)
    by_cases hc2 : at_ + 1 ≤ (gs.length : Int)
    · rw [if_pos hc2]
      refine ⟨_, _, rfl, ?_⟩
      rw [e, wrap_id (by omega) (by omega)]
      exact hr
    · rw [if_neg hc2]
      exact ⟨_, _, rfl, shift255 _⟩
  · rw [if_neg hc]
    by_cases hc2 : at_ + 1 ≤ (gs.length : Int)
    · rw [if_pos hc2]
      exact ⟨_, _, rfl, by decide⟩
    · rw [if_neg hc2]
      exact ⟨_, _, rfl, shift255 _⟩
theorem pick_ok (gs : List Int) (hg : bytesL gs) (at_ sd n : Int) (h0 : 0 ≤ at_) (h1 : at_ ≤ 1000000) (hn : 1 ≤ n) (hn2 : n ≤ 200) : ∃ x at2 sd2, spec_l00Src_pick.f gs at_ sd n = some (x, at2, sd2) ∧ (0 ≤ x ∧ x < n) ∧ at_ ≤ at2 ∧ at2 ≤ at_ + 1 := by
  unfold spec_l00Src_pick.f
  by_cases hc : n ≤ 1
  · rw [if_pos hc]
    exact ⟨_, _, _, rfl, by omega, by omega, by omega⟩
  · rw [if_neg hc]
    obtain ⟨x, sd', e, hx0, hx1⟩ := next_ok gs hg at_ sd h0 h1
    rw [e]
    simp only [Option.bind_some]
    rw [if_neg (by omega), if_neg (by omega)]
    refine ⟨_, _, _, rfl, ?_, by omega, by omega⟩
    rw [Int.tmod_eq_emod_of_nonneg hx0]
    exact ⟨Int.emod_nonneg _ (by omega), Int.emod_lt_of_pos _ (by omega)⟩
theorem one_ok (gs : List Int) (hg : bytesL gs) (at_ sd n : Int) (h0 : 0 ≤ at_) (h1 : at_ ≤ 1000000) (hn : 1 ≤ n) (hn2 : n ≤ 200) : ∃ b at2 sd2, spec_l00Src_one.f gs at_ sd n = some (b, at2, sd2) ∧ at_ ≤ at2 ∧ at2 ≤ at_ + 1 := by
  obtain ⟨x, at2, sd2, e, _, h2, h3⟩ := pick_ok gs hg at_ sd n h0 h1 hn hn2
  unfold spec_l00Src_one.f
  rw [e]
  exact ⟨_, _, _, rfl, h2, h3⟩
theorem one_letter (x : Int) (h0 : 0 ≤ x) (h1 : x < 26) : (strOfNums [(wrap64 (65 + x)) % 256]).size = 1 ∧ ∀ b ∈ (strOfNums [(wrap64 (65 + x)) % 256]).data.toList, isL (b.toNat : Int) = true := by
  refine ⟨rfl, fun b hb => ?_⟩
  have e : (wrap64 (65 + x)) % 256 = 65 + x := by rw [wrap_id (by omega) (by omega)]; omega
  rw [e] at hb
  have hb2 : b ∈ [UInt8.ofNat (65 + x).toNat] := hb
  rw [List.mem_singleton] at hb2
  subst hb2
  have : (UInt8.ofNat (65 + x).toNat).toNat = (65 + x).toNat := by rw [UInt8.toNat_ofNat']; omega
  rw [this]
  unfold isL
  rw [Bool.and_eq_true, decide_eq_true_eq, decide_eq_true_eq]
  omega
def lettersB (a : ByteArray) : Prop := ∀ b ∈ a.data.toList, isL (b.toNat : Int) = true
theorem spelt_loop (gs : List Int) (hg : bytesL gs) : ∀ (d k : Nat) (out : ByteArray) (at_ sd : Int), d < k → 0 ≤ at_ → at_ + 2 * d ≤ 1000000 → out.size + d ≤ 100 → d ≤ 100 → lettersB out →
    ∃ r at2 sd2, spec_l01Spelt.l0 k out (d : Int) gs at_ sd = some (r, at2, sd2) ∧ r.size = out.size + d ∧ lettersB r ∧ at_ ≤ at2 ∧ at2 ≤ at_ + 2 * d := by
  intro d
  induction d with
  | zero =>
    intro k out at_ sd hk h0 h1 _ _ hl
    obtain ⟨k, rfl⟩ : ∃ m, k = m + 1 := ⟨k - 1, by omega⟩
    rw [spec_l01Spelt.l0, if_neg (by omega)]
    exact ⟨_, _, _, rfl, by omega, hl, by omega, by omega⟩
  | succ d ih =>
    intro k out at_ sd hk h0 h1 ho hd hl
    obtain ⟨k, rfl⟩ : ∃ m, k = m + 1 := ⟨k - 1, by omega⟩
    rw [spec_l01Spelt.l0, if_pos (by omega)]
    obtain ⟨x, a1, s1, e1, hx, ha, hb⟩ := pick_ok gs hg at_ sd 2 h0 (by omega) (by decide) (by decide)
    rw [e1]
    simp only [Option.bind_some]
    have ew : wrap64 (5 + wrap64 (x * 21)) = 5 + x * 21 := by rw [wrap_id (n := x * 21) (by omega) (by omega), wrap_id (by omega) (by omega)]
    rw [ew]
    obtain ⟨y, a2, s2, e2, hy, hc, hd2⟩ := pick_ok gs hg a1 s1 (5 + x * 21) (by omega) (by omega) (by omega) (by omega)
    rw [e2]
    simp only [Option.bind_some]
    obtain ⟨hz, hlet⟩ := one_letter y hy.1 (by omega)
    rw [hz, if_pos (by omega), show wrap64 (((d + 1 : Nat) : Int) - 1) = (d : Int) by rw [wrap_id (by omega) (by omega)]; omega]
    have hsz : (out ++ strOfNums [(wrap64 (65 + y)) % 256]).size = out.size + 1 := by rw [ByteArray.size_append, hz]
    obtain ⟨r, a3, s3, e3, h3, h4, h5, h6⟩ := ih k (out ++ strOfNums [(wrap64 (65 + y)) % 256]) a2 s2 (by omega) (by omega) (by omega) (by omega) (by omega) (fun b hb => by
      rw [ByteArray.data_append, Array.toList_append] at hb
      rcases List.mem_append.1 hb with hb | hb
      · exact hl b hb
      · exact hlet b hb)
    exact ⟨r, a3, s3, e3, by omega, h4, by omega, by omega⟩
theorem spelt_ok (gs : List Int) (hg : bytesL gs) (at_ sd : Int) (k : Nat) (hk : 6 ≤ k) (h0 : 0 ≤ at_) (h1 : at_ ≤ 900000) : ∃ r at2 sd2, spec_l01Spelt.f k gs at_ sd = some (r, at2, sd2) ∧ saidB r ∧ at_ ≤ at2 ∧ at2 ≤ at_ + 11 := by
  unfold spec_l01Spelt.f
  obtain ⟨x, a1, s1, e1, hx, ha, hb⟩ := pick_ok gs hg at_ sd 5 h0 (by omega) (by decide) (by decide)
  rw [e1]
  simp only [Option.bind_some]
  obtain ⟨d, hd⟩ : ∃ d : Nat, (d : Int) = 1 + x := ⟨(1 + x).toNat, by omega⟩
  rw [wrap_id (by omega) (by omega), ← hd]
  have h6 : (⟨#[]⟩ : ByteArray).size = 0 := rfl
  obtain ⟨r, a2, s2, e2, h2, h3, h4, h5⟩ := spelt_loop gs hg d k ⟨#[]⟩ a1 s1 (by omega) (by omega) (by omega) (by rw [h6]; omega) (by omega) (fun b hb => by simp at hb)
  exact ⟨r, a2, s2, e2, ⟨by omega, h3⟩, by omega, by omega⟩
theorem said_loop (gs : List Int) (hg : bytesL gs) : ∀ (d k : Nat) (ws : List ByteArray) (at_ sd : Int), d + 12 ≤ k → 0 ≤ at_ → at_ + 11 * d ≤ 900000 → ws.length + d ≤ 6 → (∀ x ∈ ws, saidB x) →
    ∃ ws2 at2 sd2, spec_l01Said.l0 k ws (d : Int) gs at_ sd = some (joinB ws2 blank, at2, sd2) ∧ ws2.length ≤ 6 ∧ ∀ x ∈ ws2, saidB x := by
  intro d
  induction d with
  | zero =>
    intro k ws at_ sd hk h0 h1 hw hs
    obtain ⟨k, rfl⟩ : ∃ m, k = m + 1 := ⟨k - 1, by omega⟩
    rw [spec_l01Said.l0, if_neg (by omega), spec_l01Joined.val ws ⟨by omega, fun x hx => by have := (hs x hx).1.2; omega⟩ k (by omega)]
    exact ⟨ws, _, _, rfl, by omega, hs⟩
  | succ d ih =>
    intro k ws at_ sd hk h0 h1 hw hs
    obtain ⟨k, rfl⟩ : ∃ m, k = m + 1 := ⟨k - 1, by omega⟩
    rw [spec_l01Said.l0, if_pos (by omega)]
    obtain ⟨r, a1, s1, e1, hr, ha, hb⟩ := spelt_ok gs hg at_ sd k (by omega) h0 (by omega)
    rw [e1]
    simp only [Option.bind_some]
    rw [if_pos (by omega), show wrap64 (((d + 1 : Nat) : Int) - 1) = (d : Int) by rw [wrap_id (by omega) (by omega)]; omega]
    exact ih k (ws ++ [r]) a1 s1 (by omega) (by omega) (by omega) (by rw [List.length_append]; show ws.length + 1 + d ≤ 6; omega) (fun x hx => by
      rcases List.mem_append.1 hx with hx | hx
      · exact hs x hx
      · rw [List.mem_singleton.1 hx]; exact hr)
/-- A2Text draws a text of at most six words of letters. -/
theorem text_ok (gs : List Int) (hg : bytesL gs) : ∃ ws, spec_A2Text.f 60 gs = some (joinB ws blank) ∧ ws.length ≤ 6 ∧ ∀ x ∈ ws, saidB x := by
  unfold spec_A2Text.f spec_l00From.f spec_l01Said.f
  simp only [Option.bind_some]
  obtain ⟨x, a1, s1, e1, hx, ha, hb⟩ := pick_ok gs hg 0 0 7 (by decide) (by decide) (by decide) (by decide)
  rw [e1]
  simp only [Option.bind_some]
  obtain ⟨d, hd⟩ : ∃ d : Nat, (d : Int) = x := ⟨x.toNat, by omega⟩
  rw [← hd]
  obtain ⟨ws, a2, s2, e2, h1, h2⟩ := said_loop gs hg d 60 [] a1 s1 (by omega) (by omega) (by omega) (by simp; omega) (fun x hx => by simp at hx)
  rw [e2]
  exact ⟨ws, rfl, h1, h2⟩
end Go.Proofs.YtimkkjkgbbfgbaaGreatDoor.Q
end
