/- spec.CountRight, by hand: its tables, plain; reads of rows of rows. -/
import Derived.Test.YtnacfljfalkonaaQpureCountN
import Derived.Outline
import Derived.Lib.Hide
namespace Go.Proofs.Ytnacfljfalkonaa.Q
open Go.RowKit Go.Proofs.YtnacfljfalkonaaW.PrintWords Go.Proofs.YtnacfljfalkonaaW.PrintLast Go.Proofs.YtnacfljfalkonaaW.PrintMore
open Go.Proofs.Ytnacfljfalkonaa.Pure
set_option linter.unusedVariables false
set_option linter.unusedSimpArgs false

theorem info60 : (Try.prog.info? 60).map (fun i => (i.zero, i.size, i.bytes)) = some (some (.slice none 0 0), 1, 24) := by kernel_rfl
theorem info61 : (Try.prog.info? 61).map (fun i => (i.zero, i.size, i.bytes)) = some (some (.slice none 0 0), 1, 24) := by kernel_rfl
theorem info2' : (Try.prog.info? 2).map (fun i => (i.zero, i.size, i.bytes)) = some (some (.int .i64 0), 1, 8) := by kernel_rfl
abbrev KR : Kd Int := Kd.int .i64
abbrev KT : Kd (List Int) := Kd.slice 2 KR
abbrev KW : Kd (List (List Int)) := Kd.slice 61 KT
theorem at_row {α : Type} {d : Kd α} {e : Nat} {w : World} {A : Option Addr} {n : Nat} {xs : List (List α)} (h : (Kd.slice e d).C w A n xs) (i : Nat) (hi : i < xs.length) : ∃ ad, A = some ad ∧ ∃ A2 c2, w.cell? (ad.add i) = some (.slice A2 xs[i].length c2) ∧ d.C w A2 xs[i].length xs[i] := by
  obtain ⟨h1, _, h2⟩ := h
  obtain ⟨ad, rfl, h3⟩ := h2 (by omega)
  obtain ⟨cs, _, ⟨A2, c2, rfl, hl, hC⟩, hc⟩ := h3 i _ (List.getElem?_eq_getElem hi)
  have := hc 0 _ rfl
  exact ⟨ad, rfl, A2, c2, (by simpa [Kd.slice] using this), hC⟩
section
variable (L : List S46) (g : Nat → Nat → Bool)
def rowL (k m : Nat) : List Int := (List.range (L.length + 1)).map fun j => cnt L g k (m : Int) j
def tabL (nn k : Nat) : List (List Int) := (List.range (nn + 1)).map (rowL L g k)
def rowTo (k m last : Nat) : List Int := (List.range last).map (fun j => cnt L g k (m : Int) j) ++ List.replicate (L.length + 1 - last) 0
def rowAt (k m last p : Nat) : List Int := (List.range last).map (fun j => cnt L g k (m : Int) j) ++ sumTo L g (cnt L g) k (m : Int) last p :: List.replicate (L.length - last) 0
end
section
variable {L : List S46} {g : Nat → Nat → Bool}
theorem rowTo_len (k m last : Nat) (h : last ≤ L.length + 1) : (rowTo L g k m last).length = L.length + 1 := by unfold rowTo; simp; omega
theorem rowAt_len (k m last p : Nat) (h : last ≤ L.length) : (rowAt L g k m last p).length = L.length + 1 := by unfold rowAt; simp; omega
theorem rowTo_start (k m last : Nat) (h : last ≤ L.length) (hm : m ≠ 0) : rowTo L g k m last = rowAt L g k m last 0 := by
  unfold rowTo rowAt
  rw [sumTo, if_neg (by omega), show L.length + 1 - last = (L.length - last) + 1 by omega, List.replicate_succ]
theorem rowTo_one (k last : Nat) (h : last ≤ L.length) : (rowTo L g k 0 last).set last 1 = rowAt L g k 0 last 0 := by
  unfold rowTo rowAt
  rw [sumTo, show L.length + 1 - last = (L.length - last) + 1 by omega, List.replicate_succ, List.set_append_right _ _ (by simp), List.length_map, List.length_range, Nat.sub_self, List.set_cons_zero]
  rfl
theorem rowAt_set (k m last p : Nat) (v : Int) (hv : v = sumTo L g (cnt L g) k (m : Int) last (p + 1)) : (rowAt L g k m last p).set last v = rowAt L g k m last (p + 1) := by
  unfold rowAt
  rw [List.set_append_right _ _ (by simp), List.length_map, List.length_range, Nat.sub_self, List.set_cons_zero, hv]
theorem rowAt_same (k m last p : Nat) (hv : sumTo L g (cnt L g) k (m : Int) last (p + 1) = sumTo L g (cnt L g) k (m : Int) last p) : rowAt L g k m last p = rowAt L g k m last (p + 1) := by
  unfold rowAt
  rw [hv]
theorem rowAt_end (k m last p : Nat) (hv : sumTo L g (cnt L g) k (m : Int) last p = cnt L g k (m : Int) last) (h : last ≤ L.length) : rowAt L g k m last p = rowTo L g k m (last + 1) := by
  unfold rowAt rowTo
  rw [hv, List.range_succ, List.map_append, List.append_assoc, show L.length + 1 - (last + 1) = L.length - last by omega]
  rfl
theorem rowAt_get (k m last p : Nat) (h : last ≤ L.length) : rd (rowAt L g k m last p) (last : Int) = sumTo L g (cnt L g) k (m : Int) last p := by
  rw [Pure.rd_get _ _ (by rw [rowAt_len _ _ _ _ h]; omega)]
  unfold rowAt
  rw [List.getElem_append_right (by simp)]
  simp
theorem rowTo_all (k m : Nat) : rowTo L g k m (L.length + 1) = rowL L g k m := by
  unfold rowTo rowL
  rw [Nat.sub_self]
  simp
theorem rowL_get (k m p : Nat) (h : p ≤ L.length) : rd (rowL L g k m) (p : Int) = cnt L g k (m : Int) p := by
  rw [Pure.rd_get _ _ (by unfold rowL; simp; omega)]
  unfold rowL
  simp
theorem rowL_len (k m : Nat) : (rowL L g k m).length = L.length + 1 := by unfold rowL; simp
theorem tabL_len (nn k : Nat) : (tabL L g nn k).length = nn + 1 := by unfold tabL; simp
end
theorem sum_end {L : List S46} (hL : OkL L) {g : Nat → Nat → Bool} {k j q p : Nat} (h0 : k = 0 → p = 0) (hp : k ≠ 0 → p = L.length) : sumTo L g (cnt L g) k (j : Int) q p = cnt L g k (j : Int) q := by
  by_cases hk : k = 0
  · rw [h0 hk, hk, cnt_zero, sumTo]
  · rw [hp hk, cnt_pos hL g hk]
theorem nextQ_row (m : List MP) (L : List S46) (q : Nat) (h : q < (nextQ m L).length) : (nextQ m L)[q] = (List.range' 0 L.length).map (nx m L q) := by
  simp [nextQ]
theorem nextQ_row_len (m : List MP) (L : List S46) (q : Nat) : ((List.range' 0 L.length).map (nx m L q)).length = L.length := by simp
theorem nextQ_rd (m : List MP) (L : List S46) (q p : Nat) (hp : p < L.length) : rdOf false ((List.range' 0 L.length).map (nx m L q)) (p : Int) = nx m L q p := by
  unfold rdOf
  rw [List.getD_eq_getElem?_getD, Int.toNat_natCast, List.getElem?_map, List.getElem?_range' hp]
  simp
theorem okL_pieces {s : List SG} {m : List MP} (h : okB s m = true) (hf : fit16 s) : OkL (piecesQ s m) := by
  have h1 := fine_pieces h
  refine ⟨pieces_short h, fun p hp => ⟨(h1.1 p hp).1, ?_⟩, fun p hp => ⟨?_, (h1.1 p hp).2⟩⟩
  · rw [rdQ_get _ _ hp]
    unfold piecesQ at hp ⊢
    rw [List.length_append, List.length_map, List.length_map] at hp
    by_cases hc : p < s.length
    · rw [List.getElem_append_left (by rw [List.length_map]; exact hc), List.getElem_map]
      have := hf _ (List.getElem_mem hc)
      show (s[p]).f1 ≤ 65535
      omega
    · rw [List.getElem_append_right (by rw [List.length_map]; omega), List.getElem_map]
      have a1 := valB_le hf (m[p - (s.map sgQ).length]'(by rw [List.length_map]; omega)).f1
      have a2 := valB_le hf (m[p - (s.map sgQ).length]'(by rw [List.length_map]; omega)).f0
      show valB s _ - valB s _ ≤ 65535
      omega
  · rw [rdQ_get _ _ hp]
    unfold piecesQ at hp ⊢
    rw [List.length_append, List.length_map, List.length_map] at hp
    by_cases hc : p < s.length
    · rw [List.getElem_append_left (by rw [List.length_map]; exact hc), List.getElem_map]
      show 1 ≤ (strOfNums _).size
      rw [nums_size]
      simp
    · rw [List.getElem_append_right (by rw [List.length_map]; omega), List.getElem_map]
      show 1 ≤ (strOfNums _).size
      rw [nums_size]
      simp
def countR (s : List SG) (m : List MP) (n long : Int) : Int × Int :=
  if okB s m = true then if ((decide (0 ≤ n) && decide (n ≤ 1000)) && (decide (0 ≤ long) && decide (long ≤ 16))) = true then (cnt (piecesQ s m) (nx m (piecesQ s m)) long.toNat n (piecesQ s m).length, 0) else (0, 2) else (0, 1)
theorem fit_all {s : List SG} (h : (s.all (fun x => decide (-32768 ≤ x.f1) && decide (x.f1 ≤ 32767))) = true) : fit16 s := fun x hx => by
  have := List.all_eq_true.1 h x hx
  simp only [Bool.and_eq_true, decide_eq_true_eq] at this
  exact this
theorem bcell {w w' : World} {p : Addr} {v : Value} (hb : Below w.heap.size w w') (h : w.cell? p = some v) : w'.cell? p = some v := (hb.cell (World.block_lt_of_cell? w _ h)).trans h
/-- What the innermost loops keep: the row that is filled in, the rows of this letter count, all that went before. -/
structure Rows (gs gr gb cap n : Nat) (w0 : World) (vt vw : Value) (ways : List (List (List Int))) (tab : List (List Int)) (row : List Int) (W : World) : Prop where
  r : Kd.R KR 2 W w0.heap.size (fun b => gr ≤ b) (.slice (some ⟨gb, 0, none⟩) n cap) row
  t : Kd.R KT 61 W w0.heap.size (fun b => gs ≤ b ∧ b < gr) vt tab
  w : Kd.R KW 60 W w0.heap.size (fun b => b < gs) vw ways
  b : Below w0.heap.size w0 W
  le : gs ≤ gr ∧ gr ≤ gb ∧ w0.heap.size ≤ gs
section
variable {gs gr gb cap n : Nat} {w0 : World} {vt vw : Value} {ways : List (List (List Int))} {tab : List (List Int)} {row : List Int} {W W' : World}
theorem Rows.step (h : Rows gs gr gb cap n w0 vt vw ways tab row W) (hb : Below W.heap.size W W') : Rows gs gr gb cap n w0 vt vw ways tab row W' :=
  ⟨Kd.R_below h.r hb, Kd.R_below h.t hb, Kd.R_below h.w hb, below_step h.b hb, h.le⟩
theorem Rows.put (h : Rows gs gr gb cap n w0 vt vw ways tab row W) (i : Nat) (x : Int) {row' : List Int} (hr : row.set i x = row') : Rows gs gr gb cap n w0 vt vw ways tab row' (W.setCell ⟨gb, i, none⟩ (.int .i64 x)) := by
  obtain ⟨h1, h2, h3⟩ := h.le
  have := Kd.R_putn h.r (i : Int) x
  rw [Int.toNat_natCast, hr] at this
  exact ⟨this, Kd.R_far h.t (p := ⟨gb, i, none⟩) (fun k hk => by show k ≠ gb; omega) _, Kd.R_far h.w (p := ⟨gb, i, none⟩) (fun k hk => by show k ≠ gb; omega) _, below_set h.b (by omega), h.le⟩
theorem Rows.cell (h : Rows gs gr gb cap n w0 vt vw ways tab row W) (i : Nat) (hi : i < n) : W.cell? ⟨gb, i, none⟩ = some (.int .i64 (rd row (i : Int))) ∧ W.frozen? ⟨gb, i, none⟩ = false := by
  have := Kd.R_celln 0 h.r (i : Int) (by omega) (by omega)
  rw [Int.toNat_natCast] at this
  exact this
end
end Go.Proofs.Ytnacfljfalkonaa.Q
