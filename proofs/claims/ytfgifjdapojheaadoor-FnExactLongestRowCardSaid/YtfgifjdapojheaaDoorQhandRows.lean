/- LongestRow: what it computes, in plain words; slices.Clone of numbers; the closure that keeps the longest row. -/
import Derived.Test.YtfgifjdapojheaaDoorQpureJoin
import Derived.Test.YtfgifjdapojheaaDoorQimplsizeimplPiece
import Derived.Lib.SliceRun
namespace Go.Proofs.YtfgifjdapojheaaDoor.Q
open Go.RowKit Go.Proofs.YtfgifjdapojheaaDoorW.PrintWords Go.Proofs.YtfgifjdapojheaaDoorW.PrintLast Go.Proofs.YtfgifjdapojheaaDoorW.PrintMore
open Go.Proofs.YtfgifjdapojheaaDoor.Pure
set_option linter.unusedVariables false
set_option linter.unusedSimpArgs false

/-- The longer of a row and the best one so far. -/
def ups (row best : List Int) : List Int := if best.length < row.length then row else best
def longGo (l : List S44) : Nat → List Int → List Int → List Int
  | 0, row, best => best
  | d + 1, row, best => (List.range l.length).foldl (fun b (i : Nat) => if goesB l row (i : Int) = true then longGo l d (row ++ [(i : Int)]) b else b) (ups row best)
/-- The first i steps of a round. -/
def longAt (l : List S44) (d : Nat) (row best : List Int) (i : Nat) : List Int := (List.range i).foldl (fun b (i : Nat) => if goesB l row (i : Int) = true then longGo l d (row ++ [(i : Int)]) b else b) (ups row best)
theorem longAt_step (l : List S44) (d : Nat) (row best : List Int) (i : Nat) : longAt l d row best (i + 1) = if goesB l row (i : Int) = true then longGo l d (row ++ [(i : Int)]) (longAt l d row best i) else longAt l d row best i := by
  unfold longAt
  rw [List.range_succ, List.foldl_append]
  rfl
/-- How many numbers under n a row lacks. -/
def leftN (n : Nat) (row : List Int) : Nat := ((List.range n).filter (fun i => !(row.any fun x => ((i : Nat) : Int) == x))).length
theorem filter_less {α : Type} (p q : α → Bool) (h : ∀ x, q x = true → p x = true) : ∀ (l : List α), (l.filter q).length ≤ (l.filter p).length
  | [] => Nat.le_refl _
  | x :: t => by
    have ih := filter_less p q h t
    rw [List.filter_cons, List.filter_cons]
    by_cases hq : q x = true
    · rw [if_pos hq, if_pos (h x hq)]
      simpa using ih
    · rw [if_neg hq]
      split
      · simp; omega
      · exact ih
theorem filter_fewer {α : Type} (p q : α → Bool) (h : ∀ x, q x = true → p x = true) (y : α) (hp : p y = true) (hq : q y = false) : ∀ (l : List α), y ∈ l → (l.filter q).length < (l.filter p).length
  | [], hy => by cases hy
  | x :: t, hy => by
    have hle := filter_less p q h t
    rw [List.filter_cons, List.filter_cons]
    rcases List.mem_cons.1 hy with e | hm
    · subst e
      rw [if_pos hp, if_neg (by rw [hq]; simp)]
      simp
      omega
    · have ih := filter_fewer p q h y hp hq t hm
      by_cases hx : q x = true
      · rw [if_pos hx, if_pos (h x hx)]
        simpa using ih
      · rw [if_neg hx]
        split
        · simp; omega
        · exact ih
theorem goesB_has {l : List S44} {row : List Int} {i : Int} (h : goesB l row i = true) : (row.any fun x => i == x) = false := by
  unfold goesB at h
  simp only [Bool.and_eq_true, Bool.not_eq_true'] at h
  exact h.1
theorem leftN_less {n : Nat} {row : List Int} {i : Nat} (hi : i < n) (h : (row.any fun x => (i : Int) == x) = false) : leftN n (row ++ [(i : Int)]) < leftN n row := by
  unfold leftN
  refine filter_fewer _ _ (fun x hx => ?_) i (by rw [h]; rfl) (by simp [List.any_append]) _ (List.mem_range.2 hi)
  simp only [List.any_append, Bool.not_or, Bool.and_eq_true] at hx
  exact hx.1
theorem leftN_nil (n : Nat) : leftN n [] = n := by
  unfold leftN
  have e : (List.range n).filter (fun i => !(([] : List Int).any fun x => ((i : Nat) : Int) == x)) = List.range n := List.filter_eq_self.2 (fun i _ => rfl)
  rw [e, List.length_range]
theorem row_all {l : List S44} {row : List Int} {i : Nat} (hi : i < l.length) (h : row.all (numB l) = true) : (row ++ [(i : Int)]).all (numB l) = true := by
  rw [List.all_append, h]
  simp [numB_iff, hi]

theorem info2' : (Tryd.prog.info? 2).map (fun i => (i.zero, i.size, i.bytes)) = some (some (.int .i64 0), 1, 8) := by kernel_rfl
set_option maxHeartbeats 2000000 in
theorem cloneS (ad : Addr) (c0 : Nat) (l0 : List Int) (w : World) (hr0 : Kd.C (Kd.int .i64) w (some ad) l0.length l0) (hc0 : l0.length ≤ c0) (hl2 : l0.length ≤ 1048576) :
    Calls Tryd.prog 31 #[.slice (some ad) l0.length c0] w fun e w' => ∃ v0_ : Value, e = .returned (v0_) ∧ Kd.R (Kd.int .i64) 2 w' w.heap.size (fun _ => True) v0_ l0 ∧ Below w.heap.size w w' := by
  have HR := Lib.hid hr0
  clear hr0
  have hn := fun (W : World) => Lib.run_eql_slice_nil (P := Tryd.prog) W 24 2 (some ad) l0.length c0 0 0 Tryd.underlying24
  simp only [Option.isNone_some] at hn
  go_enter Tryd.func31, Tryd.ntmps31
  go_wp2_with (first | ((with_reducible refine gate_dst (N := 5) rfl ?_); refine Kd.R_lit (Kd.int .i64) _ 2 ?hg (N := 5) ?hd (xs := ([] : List Int)) (inner := []) (ok := fun _ => True) (okp := fun _ => True) ?hr ?hp (fun _ hk => hk) trivial (Below.refl _ _) (Nat.le_refl _) (by simp) ?_; (case hd => rfl); (case hg => rfl); (case hr => first | (go_simp; done) | (go_simp; rfl)); (case hp => exact (Reps.none _ _)); intro v0 w7 ho8 hb hg_ hnew_; clear hg_ hnew_; have HO := Lib.hid ho8; have HB := Lib.hid hb; have HC := Lib.hid (Kd.C_below HR.out hb); clear ho8 hb) | ((with_reducible refine gate_builtin (b := .append) (xs := #[.tmp 5, .tmp 6]) rfl ?_); at_builtin; refine Kd.R_append_rows (Kd.int .i64) (w0 := w) w.heap.size rfl (.tmp 5) (.tmp 6) 24 2 (.int .i64 0) 8 rfl Tryd.underlying24 info2' rfl (by decide) (by omega) v0 [] l0 _ _ _ (fun _ => True) (fun _ => False) rfl rfl ?aO ?aR (fun _ _ h => h) (fun _ h => h.elim) ?aF ?aB ?aS ?aL ?_; (case aO => exact HO.out); (case aR => exact HC.out); (case aF => exact (fun _ _ => trivial)); (case aB => exact HB.out); (case aS => exact HB.out.size); (case aL => simp; omega); intro v2 w2 ho hb hg hat; have HR4 := Lib.hid ho; have HW4 := Lib.hid hb; clear ho hb hg hat))
  go_ret
  exact ⟨_, rfl, HR4.out, HW4.out⟩
theorem cloneN (c0 : Nat) (w : World) :
    Calls Tryd.prog 31 #[.slice none 0 c0] w fun e w' => ∃ v0_ : Value, e = .returned (v0_) ∧ Kd.R (Kd.int .i64) 2 w' w.heap.size (fun _ => True) v0_ [] ∧ Below w.heap.size w w' := by
  have hn := fun (W : World) => Lib.run_eql_slice_nil (P := Tryd.prog) W 24 2 none 0 c0 0 0 Tryd.underlying24
  simp only [Option.isNone_none] at hn
  go_enter Tryd.func31, Tryd.ntmps31
  go_wp2
  go_ret
  exact ⟨_, rfl, Kd.R_mono (Kd.R_nil _ _ _ _ (fun _ => True)) (fun _ h => h), Below.refl _ _⟩
theorem cloneC (A : Option Addr) (c0 : Nat) (l0 : List Int) (w : World) (hr0 : Kd.C (Kd.int .i64) w A l0.length l0) (hc0 : l0.length ≤ c0) (hl2 : l0.length ≤ 1048576) :
    Calls Tryd.prog 31 #[.slice A l0.length c0] w fun e w' => ∃ v0_ : Value, e = .returned (v0_) ∧ Kd.R (Kd.int .i64) 2 w' w.heap.size (fun _ => True) v0_ l0 ∧ Below w.heap.size w w' := by
  cases A with
  | some ad => exact cloneS ad c0 l0 w hr0 hc0 hl2
  | none =>
    have h0 : l0.length = 0 := by
      rcases Nat.eq_zero_or_pos l0.length with h | h
      · exact h
      · obtain ⟨ad, e, _⟩ := hr0.2.2 h
        cases e
    have : l0 = [] := List.length_eq_zero_iff.1 h0
    subst this
    exact cloneN c0 w
theorem eachC (gb : Nat) (Ar Bb : Option Addr) (n cr m cb : Nat) (W : World) (h : W.heap[gb]? = some (.cells #[.slice Bb m cb] 24 (0, 0))) :
    Calls Tryd.prog 19 #[.slice Ar n cr, .pointer (some ⟨gb, 0, none⟩)] W fun e w' => e = .returned (.tuple #[]) ∧ w' = if m < n then W.setCell ⟨gb, 0, none⟩ (.slice Ar n cr) else W := by
  have g0 : W.cell? ⟨gb, 0, none⟩ = some (.slice Bb m cb) := (blk_cell h 0).trans rfl
  have fz := blk_frozen h 0
  by_cases hlt : m < n
  · have hlt2 : (m : Int) < (n : Int) := by omega
    have hlt3 : decide ((n : Int) > (m : Int)) = true := decide_eq_true (by omega)
    rw [if_pos hlt]
    go_enter Tryd.func19, Tryd.ntmps19
    go_wp2
    (try simp only [Exit.inBlock, Exit.then])
    refine bodyPost_end (results_none rfl _ _ _) rfl ?_
    exact ⟨rfl, rfl⟩
  · have hlt2 : ¬ (m : Int) < (n : Int) := by omega
    have hlt3 : decide ((n : Int) > (m : Int)) = false := decide_eq_false (by omega)
    rw [if_neg hlt]
    go_enter Tryd.func19, Tryd.ntmps19
    go_wp2
    (try simp only [Exit.inBlock, Exit.then])
    refine bodyPost_end (results_none rfl _ _ _) rfl ?_
    exact ⟨rfl, rfl⟩
end Go.Proofs.YtfgifjdapojheaaDoor.Q
